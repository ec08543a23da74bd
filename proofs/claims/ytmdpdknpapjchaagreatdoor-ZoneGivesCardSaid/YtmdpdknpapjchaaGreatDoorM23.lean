/- order.Valid of no Systems. -/
import Derived.Test.YtmdpdknpapjchaaGreatDoorM22
set_option linter.all false
namespace Go.Proofs.YtmdpdknpapjchaaGreatDoor
section
open Go.Conc Go.RowKit
variable {a:Act}{co:Bool}
theorem LG{P:Program}{E:Goroutine->World->Prop}{b:Frame}{k:List Item}{cs:List Frame}{W:World}{c:Code}(hE:Closed P co E)(hc:c=.ret)(h:E (G {b.at a (.code .ret::k) with mode:=.returning} cs) W):E (G (b.at a (.code c::k)) cs) W:=hc▸hE.cr rfl (λ_ _=>stepG_ret') h
theorem Q2{P:Program}{E:Goroutine->World->Prop}{b:Frame}{k:List Item}{cs:List Frame}{W:World}{n:Nat}{l:List (Nat×Value)}{ops:Array Oper}{i d:Nat}{rest:List Nat}(hE:Closed P co E)(hk:b.kind≠.early){t yt:TypeId}{x y:Operand}{p q:Int}(hO:Zl ops i=some (some d,.binOp .gtr t x y yt,none))(hS:YC n a l)(hd:d<n)(hx:a.eval x=.int .i64 p)(hy:a.eval y=.int .i64 q)(h:Nxt E b k cs ops rest n d a l (.bool (decide (q<p))) W):E (G (b.at a (.inRegion ops (i::rest)::k)) cs) W:=
 iO hE hk hO hS hd _ (λ_ _ _=>ku hx hy λw=>rfl) h
noncomputable def vB:Code:=eK Tryz.f39
noncomputable def vL:Code:=lin (bin (X3 (X6 (X3 (X3 (X3 vB))))))
theorem UA:vB=.seq (.region 0 (Zj (X6 vB)) false) (.seq (.seq (.region 1 (Zj (X6 (X6 (X3 vB)))) false) (.cond (.tmp 8) (cn1 (X3 (X6 (X3 vB)))) .skip)) (.seq (.region 3 (Zj (X6 (X3 (X3 vB)))) false) (.seq (.seq (.region 4 (Zj (X6 (X6 (X3 (X3 (X3 vB)))))) false) (.block 0 (.loop vL))) (.seq (.region 11 (Zj (X6 (X3 (X3 (X3 (X3 vB)))))) false) .ret)))):=by kernel_rfl
theorem Uz:vL=.seq (.region 5 (Zj (X6 vL)) false) (.seq (.cond (.tmp 13) .skip (.exit 0)) (X3 (X3 vL))):=by kernel_rfl
theorem Ej:∃e,Tryz.prog.underlying 29=some (.slice e):=⟨_,Tryz.underlying29⟩
set_option maxRecDepth 100000 in
set_option maxHeartbeats 1000000 in
theorem xO(pz:Option Addr)(kz:Nat)(W:World):bj Tryz.prog co 39 #[.slice pz 0 kz] W λe W'=>e=.returned (.bool true)∧Rv W W':=by
 intro E hE cs hc;have hS0:YC 61 {tmps:=#[.slice pz 0 kz]++Array.replicate 60 undef,defers:=[]} [(0,.slice pz 0 kz)]:=⟨by simp,λt v e=>by
  simp only[aA] at e;split at e;rename_i x;subst x;obtain rfl:=Oi e;kernel_rfl
  ·cases e⟩
 have he:Frame.enter Tryz.prog 39 #[.slice pz 0 kz] .normal=(base 39).at {tmps:=#[.slice pz 0 kz]++Array.replicate 60 undef,defers:=[]} [.code vB]:=by kernel_rfl
 rw[he];have hd0:({tmps:=#[.slice pz 0 kz]++Array.replicate 60 undef,defers:=[]} : Act).defers=[]:=rfl;generalize ({tmps:=#[.slice pz 0 kz]++Array.replicate 60 undef,defers:=[]} : Act)=a0 at hS0 hd0 ⊢;have hb:(base 39).kind≠.early:=by decide
 refine b7 hE _ _ UA ?_;refine aR hE _ _ 1 rfl (by kernel_rfl) ?_;refine fN (d:=2) (x:=.const (.bool false)) hE hb (by kernel_rfl) hS0 (by decide) (.bool false) rfl λa1 Y6 d1=>?_;refine aw hE ?_;refine b7 hE _ _ rfl ?_;refine b7 hE _ _ rfl ?_;refine aR hE _ _ 3 rfl (by kernel_rfl) ?_;refine dM (d:=6) (x:=.tmp 0) hE hb (by kernel_rfl) Y6 (by decide) (.slice pz 0 kz) (Y6.ev rfl) λa2 Zu d2=>?_;refine Ep (d:=7) (t:=29) (x:=.tmp 6) hE hb (by kernel_rfl) Zu (by decide) (Zu.ev rfl) Ej λa3 hS3 d3=>?_;refine Q2 (d:=8) (t:=3) (yt:=3) (x:=.tmp 7) (y:=.const (.int .i64 16)) hE hb (by kernel_rfl) hS3 (by decide) (hS3.ev rfl) rfl λa4 hS4 d4=>?_;refine aw hE ?_;refine s_cond hE 8 _ _ rfl hS4 false rfl ?_;refine k9 hE rfl ?_;refine b7 hE _ _ rfl ?_;refine aR hE _ _ 2 rfl (by kernel_rfl) ?_;have hO:Zl (Zj (X6 (X3 (X3 vB)))) 0=some (some 9,.makeMap 132 none,none):=by kernel_rfl
 obtain⟨ty,pos,after,ho⟩:=dO hO;refine Bd hE hb ho rfl (aa (rq _) λ_=>trivial) λW1 r1=>⟨.map (some W1.heap.size),W1.alloc (.map #[] 0),rfl,?_⟩
 have ra:Rv W (W1.alloc (.map #[] 0)):=r1.trans ⟨rfl,rfl,rfl,λbb o' h=>by have hbb:bb<W1.heap.size:=(E'.1 h).1;show (W1.heap.push _)[bb]? = _;rw[Array.getElem?_push,Xk (by omega)];exact h⟩;generalize W1.alloc (.map #[] 0)=W2 at ra ⊢;have Z6:YC 61 (a4.put (some 9) (.map (some W1.heap.size))) _:=hS4.put (t:=9) (by decide) (.map (some W1.heap.size));have d5:(a4.put (some 9) (.map (some W1.heap.size))).defers=a4.defers:=rfl;show E (G ((base 39).at (a4.put (some 9) (.map (some W1.heap.size))) _) cs) W2;generalize a4.put (some 9) (.map (some W1.heap.size))=a5 at Z6 d5 ⊢;refine fN (d:=3) (x:=.tmp 9) hE hb (by kernel_rfl) Z6 (by decide) _ (Z6.ev rfl) λa6 hS6 d6=>?_;refine aw hE ?_;refine b7 hE _ _ rfl ?_;refine b7 hE _ _ rfl ?_;refine aR hE _ _ 3 rfl (by kernel_rfl) ?_;refine dM (d:=10) (x:=.tmp 0) hE hb (by kernel_rfl) hS6 (by decide) (.slice pz 0 kz) (hS6.ev rfl) λa7 hS7 d7=>?_;refine Ep (d:=11) (t:=29) (x:=.tmp 10) hE hb (by kernel_rfl) hS7 (by decide) (hS7.ev rfl) Ej λa8 hS8 d8=>?_;refine dM (d:=12) (x:=.const (.int .i64 0)) hE hb (by kernel_rfl) hS8 (by decide) (.int .i64 0) rfl λa9 hS9 d9=>?_;refine aw hE ?_;refine lf hE 0 _ rfl (xE hE _ rfl ?_);refine b7 hE _ _ Uz ?_;refine aR hE _ _ 1 rfl (by kernel_rfl) ?_;refine wm (d:=13) (t:=3) (yt:=3) (x:=.tmp 12) (y:=.tmp 11) hE hb (by kernel_rfl) hS9 (by decide) (hS9.ev rfl) (hS9.ev rfl) λa10 hS10 d10=>?_;refine aw hE ?_;refine b7 hE _ _ rfl ?_;refine s_cond hE 13 _ _ rfl hS10 false rfl ?_;refine s_exit hE 0 rfl _ rfl ?_;refine b7 hE _ _ rfl ?_;refine aR hE _ _ 1 rfl (by kernel_rfl) ?_;refine fN (d:=2) (x:=.const (.bool true)) hE hb (by kernel_rfl) hS10 (by decide) (.bool true) rfl λa11 hS11 d11=>?_;refine aw hE ?_;refine LG hE rfl ?_;have hr:Tryz.f39.results=#[.tmp 2]:=by kernel_rfl
 refine hc (.returned (.bool true)) W2 _ ⟨rfl,ra⟩ rfl ⟨rfl,?_,rfl,_,Tryz.func39,?_⟩;exact d11.trans (d10.trans (d9.trans (d8.trans (d7.trans (d6.trans (d5.trans (d4.trans (d3.trans (d2.trans (d1.trans hd0))))))))));rw[results_tmp hr];have:=hS11.ev (t:=2) rfl;exact O' (λv=>Result.ok v W2) this
end
section
open Go.RowKit
variable {fn:Func}
def tS:Nat->List SV->List SV
 | 0,l=>l
 | k+1,l=>tS k (Yz l)
def aS(k:Nat)(x:SV):SV:=YQ (tS k x.al)
def Sk:SV:=.rs 2 0 λ_=>JV
structure rX where
 a:Int
 b:Int
 len:Int
def rX.cells(b:rX):List SV:=[.v (.int .i64 b.a),.v (.int .i64 b.b),.v (.int .i64 b.len)]
def rX.sv(b:rX):SV:=.agg b.cells
def rX.of(x:SV):rX:=⟨(aS 0 x).iv,(aS 1 x).iv,(aS 2 x).iv⟩
def zM:List SV:=[.v (.int .i64 0),.v (.int .i64 0),.v (.int .i64 0)]
def JF:Rd rX:=⟨.agg zM,rX.of,rX.sv,λ_=>rfl⟩
structure Rps where
 n:Nat
 e:Nat->rX
def Rps.sv(l:Rps):SV:=.rs 3 l.n λi=>(l.e i).cells
def Rps.of(x:SV):Rps:=⟨x.rn,λi=>rX.of (.agg (x.rf i))⟩
def xM:SV:=.rs 3 0 λ_=>zM
def nP:Rd Rps:=⟨xM,Rps.of,Rps.sv,λ_=>rfl⟩
structure Inp where
 client:Int
 seq:Int
 tick:Int
 moveX:Int
 moveY:Int
 fire:Bool
 aimX:Int
 aimY:Int
 seen:Int
 part:Int
def Inp.cells(b:Inp):List SV:=[.v (.int .i64 b.client),.v (.int .i64 b.seq),.v (.int .i64 b.tick),.v (.int .i64 b.moveX),.v (.int .i64 b.moveY),.v (.bool b.fire),.v (.int .i64 b.aimX),.v (.int .i64 b.aimY),.v (.int .i64 b.seen),.v (.int .i64 b.part)]
def Inp.sv(b:Inp):SV:=.agg b.cells
def Inp.of(x:SV):Inp:=⟨(aS 0 x).iv,(aS 1 x).iv,(aS 2 x).iv,(aS 3 x).iv,(aS 4 x).iv,(aS 5 x).bv,(aS 6 x).iv,(aS 7 x).iv,(aS 8 x).iv,(aS 9 x).iv⟩
def EH:List SV:=[.v (.int .i64 0),.v (.int .i64 0),.v (.int .i64 0),.v (.int .i64 0),.v (.int .i64 0),.v (.bool false),.v (.int .i64 0),.v (.int .i64 0),.v (.int .i64 0),.v (.int .i64 0)]
def Q4:Rd Inp:=⟨.agg EH,Inp.of,Inp.sv,λ_=>rfl⟩
structure cD where
 n:Nat
 e:Nat->Inp
def cD.sv(l:cD):SV:=.rs 10 l.n λi=>(l.e i).cells
def cD.of(x:SV):cD:=⟨x.rn,λi=>Inp.of (.agg (x.rf i))⟩
def Ou:SV:=.rs 10 0 λ_=>EH
def mo:Rd cD:=⟨Ou,cD.of,cD.sv,λ_=>rfl⟩
structure BP where
 name:ByteArray
 reads:Int
 writes:Int
 prog:Int
def BP.cells(b:BP):List SV:=[.v (.string b.name),.v (.int .u32 b.reads),.v (.int .u32 b.writes),.v (.int .i64 b.prog)]
def BP.of(x:SV):BP:=⟨(aS 0 x).str,(aS 1 x).iv,(aS 2 x).iv,(aS 3 x).iv⟩
def JU:List SV:=[.v (.string ⟨#[]⟩),.v (.int .u32 0),.v (.int .u32 0),.v (.int .i64 0)]
structure lZ where
 n:Nat
 e:Nat->BP
def lZ.sv(l:lZ):SV:=.rs 4 l.n λi=>(l.e i).cells
def lZ.of(x:SV):lZ:=⟨x.rn,λi=>BP.of (.agg (x.rf i))⟩
def xL:SV:=.rs 4 0 λ_=>JU
def ot:Rd lZ:=⟨xL,lZ.of,lZ.sv,λ_=>rfl⟩
structure Ins where
 op:Int
 a:Int
def Ins.cells(b:Ins):List SV:=[.v (.int .u8 b.op),.v (.int .i64 b.a)]
def Ins.sv(b:Ins):SV:=.agg b.cells
def Ins.of(x:SV):Ins:=⟨(aS 0 x).iv,(aS 1 x).iv⟩
def EG:List SV:=[.v (.int .u8 0),.v (.int .i64 0)]
def rb:Rd Ins:=⟨.agg EG,Ins.of,Ins.sv,λ_=>rfl⟩
structure fG where
 n:Nat
 e:Nat->Ins
def fG.sv(l:fG):SV:=.rs 2 l.n λi=>(l.e i).cells
def fG.of(x:SV):fG:=⟨x.rn,λi=>Ins.of (.agg (x.rf i))⟩
def EJ:SV:=.rs 2 0 λ_=>EG
def jv:Rd fG:=⟨EJ,fG.of,fG.sv,λ_=>rfl⟩
structure Zx where
 code:fG
 locals:Int
 reads:Int
 writes:Int
def Zx.cells(b:Zx):List SV:=[b.code.sv,.v (.int .i64 b.locals),.v (.int .u32 b.reads),.v (.int .u32 b.writes)]
def Zx.sv(b:Zx):SV:=.agg b.cells
def Zx.of(x:SV):Zx:=⟨fG.of (aS 0 x),(aS 1 x).iv,(aS 2 x).iv,(aS 3 x).iv⟩
def EF:List SV:=[EJ,.v (.int .i64 0),.v (.int .u32 0),.v (.int .u32 0)]
def nQ:Rd Zx:=⟨.agg EF,Zx.of,Zx.sv,λ_=>rfl⟩
structure BT where
 n:Nat
 e:Nat->Zx
def BT.sv(l:BT):SV:=.rs 4 l.n λi=>(l.e i).cells
def BT.of(x:SV):BT:=⟨x.rn,λi=>Zx.of (.agg (x.rf i))⟩
def EI:SV:=.rs 4 0 λ_=>EF
structure Z8 where
 systems:lZ
 progs:BT
 seed:Int
 fuel:Int
def Z8.cells(b:Z8):List SV:=[b.systems.sv,b.progs.sv,.v (.int .u64 b.seed),.v (.int .i64 b.fuel)]
def Z8.sv(b:Z8):SV:=.agg b.cells
def Z8.of(x:SV):Z8:=⟨lZ.of (aS 0 x),BT.of (aS 1 x),(aS 2 x).iv,(aS 3 x).iv⟩
def Oo:List SV:=[xL,EI,.v (.int .u64 0),.v (.int .i64 0)]
def nO:Rd Z8:=⟨.agg Oo,Z8.of,Z8.sv,λ_=>rfl⟩
structure X2 where
 areaLowX:Int
 areaLowY:Int
 areaHighX:Int
 areaHighY:Int
 wTick:Int
 wEntities:ZJ
 setupSystems:lZ
 setupProgs:BT
 setupSeed:Int
 setupFuel:Int
 ropes:Rps
 gravityX:Int
 gravityY:Int
def X2.cells(b:X2):List SV:=[.v (.int .i64 b.areaLowX),.v (.int .i64 b.areaLowY),.v (.int .i64 b.areaHighX),.v (.int .i64 b.areaHighY),.v (.int .i64 b.wTick),b.wEntities.sv,b.setupSystems.sv,b.setupProgs.sv,.v (.int .u64 b.setupSeed),.v (.int .i64 b.setupFuel),b.ropes.sv,.v (.int .i64 b.gravityX),.v (.int .i64 b.gravityY)]
def X2.sv(b:X2):SV:=.agg b.cells
def X2.of(x:SV):X2:=⟨(aS 0 x).iv,(aS 1 x).iv,(aS 2 x).iv,(aS 3 x).iv,(aS 4 x).iv,ZJ.of (aS 5 x),lZ.of (aS 6 x),BT.of (aS 7 x),(aS 8 x).iv,(aS 9 x).iv,Rps.of (aS 10 x),(aS 11 x).iv,(aS 12 x).iv⟩
def On:List SV:=[.v (.int .i64 0),.v (.int .i64 0),.v (.int .i64 0),.v (.int .i64 0),.v (.int .i64 0),Sk,xL,EI,.v (.int .u64 0),.v (.int .i64 0),xM,.v (.int .i64 0),.v (.int .i64 0)]
def eZ:Rd X2:=⟨.agg On,X2.of,X2.sv,λ_=>rfl⟩
structure Stop where
 iD:Int
 along:Int
 byI:Int
def Stop.cells(b:Stop):List SV:=[.v (.int .i64 b.iD),.v (.int .u8 b.along),.v (.int .i64 b.byI)]
structure kT where
 n:Nat
 e:Nat->Stop
def kT.sv(l:kT):SV:=.rs 3 l.n λi=>(l.e i).cells
def Ww:List SV:=[.v (.int .i64 0),.v (.int .i64 0),.v (.int .i64 0),.v (.int .i64 0),.v (.int .i64 0),.v (.int .i64 0),.v (.int .i64 0),.v (.bool false),.v (.bool false)]
structure Bds where
 n:Nat
 e:Nat->Body
def Bds.sv(l:Bds):SV:=.rs 9 l.n λi=>(l.e i).cells
def Bds.of(x:SV):Bds:=⟨x.rn,λi=>Body.of (.agg (x.rf i))⟩
def CK:SV:=.rs 9 0 λ_=>Ww
def Ey:Rd Bds:=⟨CK,Bds.of,Bds.sv,λ_=>rfl⟩
structure ZU where
 bodies:Bds
 ropes:Rps
 gravityX:Int
 gravityY:Int
def ZU.cells(b:ZU):List SV:=[b.bodies.sv,b.ropes.sv,.v (.int .i64 b.gravityX),.v (.int .i64 b.gravityY)]
def ZU.sv(b:ZU):SV:=.agg b.cells
def ZU.of(x:SV):ZU:=⟨Bds.of (aS 0 x),Rps.of (aS 1 x),(aS 2 x).iv,(aS 3 x).iv⟩
def Oq:List SV:=[CK,xM,.v (.int .i64 0),.v (.int .i64 0)]
def q9:Rd ZU:=⟨.agg Oq,ZU.of,ZU.sv,λ_=>rfl⟩
structure Z' where
 sBodies:Bds
 sRopes:Rps
 sGravityX:Int
 sGravityY:Int
 bID:Int
 bPosX:Int
 bPosY:Int
 bVelX:Int
 bVelY:Int
 bW:Int
 bH:Int
 bRound:Bool
 bFixed:Bool
 axis:Int
 sign:Int
def Z'.cells(b:Z'):List SV:=[b.sBodies.sv,b.sRopes.sv,.v (.int .i64 b.sGravityX),.v (.int .i64 b.sGravityY),.v (.int .i64 b.bID),.v (.int .i64 b.bPosX),.v (.int .i64 b.bPosY),.v (.int .i64 b.bVelX),.v (.int .i64 b.bVelY),.v (.int .i64 b.bW),.v (.int .i64 b.bH),.v (.bool b.bRound),.v (.bool b.bFixed),.v (.int .i64 b.axis),.v (.int .i64 b.sign)]
def Z'.sv(b:Z'):SV:=.agg b.cells
def Z'.of(x:SV):Z':=⟨Bds.of (aS 0 x),Rps.of (aS 1 x),(aS 2 x).iv,(aS 3 x).iv,(aS 4 x).iv,(aS 5 x).iv,(aS 6 x).iv,(aS 7 x).iv,(aS 8 x).iv,(aS 9 x).iv,(aS 10 x).iv,(aS 11 x).bv,(aS 12 x).bv,(aS 13 x).iv,(aS 14 x).iv⟩
def Ot:List SV:=[CK,xM,.v (.int .i64 0),.v (.int .i64 0),.v (.int .i64 0),.v (.int .i64 0),.v (.int .i64 0),.v (.int .i64 0),.v (.int .i64 0),.v (.int .i64 0),.v (.int .i64 0),.v (.bool false),.v (.bool false),.v (.int .i64 0),.v (.int .i64 0)]
def JG:Rd Z':=⟨.agg Ot,Z'.of,Z'.sv,λ_=>rfl⟩
section
variable {PP:Program}{C:Cx PP}{Γ:List (XR C)}{Fs:List (Y0 C)}{d:Nat}
def EL(out:SV)(t0:TypeId)(H:aU)(v:SV):Prop:=match out with
 | .agg [x,.rs szo no fo]=>match v with
  | .agg [x',v']=>uC x=true∧x=x'∧xN szo no fo t0 H v'
  | _=>False
 | _=>False
def se(out:SV)(t0:TypeId)(H:aU)(v:SV):Prop:=ae out H v∧EL out t0 H v
theorem HR{f:FuncId}{args:List SV}{vs:List Value}{ze:Nat->Nat->Value->Prop}{W:World}{out:SV}{t0:TypeId}(h:How)(hm:C.P.follows .mixedOrders=true)(hf:C.P.funcs[f]? = some fn)(hB:gq h.fl fn=true)(hG:C.ZQ W)(hz:∀b i c,ze b i c->W.cell? ⟨b,i,none⟩=some c∧c.oneCell'=true)(XY:au (aI ze) args vs)(he:aJ Γ Fs d h fn args λv H _=>se out t0 H v) :
  bj C.P C.co f vs.toArray W λe W'=>∃val z',e=.returned val∧Gr W W'∧(∀b i c,z' b i c->(ze b i c∨W.heap.size<=b)∧W'.cell? ⟨b,i,none⟩=some c∧c.oneCell'=true)∧den (aI z') out val∧M6 z' W W' val t0 out:=by
 unfold aJ at he;split at he
 rotate_left
 exact he.elim;rename_i code hb hn;have hB:dL h.fl code=true:=by unfold gq at hB;rw[hb] at hB;exact hB
 refine(gM h (cX hm d) hm hf hb hn hB (gb hG hz) (λn b h=>by cases h) (λe l h=>by cases h) (λm i l h=>by cases h) XY _ he).mono ?_;rintro e W' ⟨v,val,H',Yl,XM,rfl,⟨hk,hko⟩,Yq,YN,YR⟩;obtain⟨h1,h2,h3⟩:=pj hk Yq YN YR;refine⟨val,(zR XM W').z,rfl,h1,h2,h3,?_⟩;unfold EL at hko;split at hko;split at hko;obtain⟨h1,rfl,h2⟩:=hko;obtain⟨us,⟨u,w,rfl,d1,v,w2,rfl,d2,rfl⟩,rfl⟩:=YR;exact⟨u,v,rfl,mG _ _ h1 d1,CL h2 Yq YN d2⟩;exact hko.elim;exact hko.elim
def y9{α:Type}(f:FuncId)(en:∀(args:Array Value) (w:World),(callFunc f args).run C.P w=.ok (.enter f args) w)(R:Rds α)(pre:α->List Prop)(out:α->SV)(t0:TypeId)(h:α->How)(fl:List Nat)(hfl:∀a,(h a).fl=fl)(hm:C.P.follows .mixedOrders=true)(hf:C.P.funcs[f]? = some fn)(hB:gq fl fn=true)(he:∀a,aD (pre a)->aJ Γ Fs d (h a) fn (R.enc a) λv H _=>se (out a) t0 H v):XR C where
 f:=f
 en:=en
 ns:=de hf hB
 run:=λargs=>match fL R.ov args with|some l=>some (obO (l++pre (R.dec args)),out (R.dec args))|none=>none
 fresh:=false
 own:=some t0
 ok:=by
  intro ze W args vs ob o hG hz hd hr ho;split at hr
  ·rename_i l hl;obtain⟨rfl,rfl⟩:=F7 (Oi hr);obtain⟨c1,c2⟩:=b8 (xS ho);have hd':au (aI ze) (R.enc (R.dec args)) vs:=(by rw[R.ok];exact bZ _ _ _ (fY _ _ l hl c1) hd);exact(HR (h (R.dec args)) hm hf (by rw[hfl];exact hB) hG hz hd' (he (R.dec args) c2)).mono λe W' ⟨val,z',h1,h2,h3,h4,h5⟩=>⟨val,z',h1,h2,h3,h4,(λc=>by cases c),λt c=>by cases c;exact h5⟩
  cases hr
end
def zZ:SV:=.v (.slice none 0 0)
theorem db{W W1:World}(h:Rv W W1):Gr W W1:=⟨h.os,h.tape,h.output,h.size,λb hb=>h.same hb⟩
set_option maxRecDepth 100000 in
noncomputable def Di:XR cx:=ru 39 Tryz.call39 (de (fl:=[]) (fn:=Tryz.f39) Tryz.func39 (by kernel_rfl)) (bh ot) (λx=>[x.n=0]) (λ_=>.bl true) λx ze W vs hp hG hz hd=>by obtain⟨n,e⟩:=x;obtain rfl:n=0:=hp;obtain⟨u,w,rfl,⟨ad,cap,rfl,-,-⟩,rfl⟩:=hd;exact(xO ad cap W).mono λe W' ⟨h1,h2⟩=>⟨_,λ_ _ _=>False,h1,db h2,λ_ _ _ h=>h.elim,rfl⟩
structure Z8.vV (x:Z8):Prop where
 s:x.systems.n=0
 p:x.progs.n=0
 f0:0<=x.fuel
 f1:x.fuel<=10000
set_option maxRecDepth 100000 in
theorem H9:∀x:Z8,aD ((λx=>[x.vV]) x)->aJ (C:=cx) [Di] [] 0 ⟨[1001],[],[],2⟩ Tryz.f18 ((bh nO).enc x) λv H _=>ae ((λ_=>.bl true) x) H v:=by
 intro⟨⟨n,e⟩,⟨m,f⟩,s,b⟩ h;replace h:Z8.vV _:=h;obtain⟨h1,h2,h3,h4⟩:=h;obtain rfl:n=0:=h1;obtain rfl:m=0:=h2;replace h3:0<=b:=h3;replace h4:b<=10000:=h4;repeat' (first|refine Ai ?_ ?_|(intro hh;exact P' (show decide ((0:Int)<0)=true from hh) (by decide))|(intro hh;exact P' (Od (show decide (b<0)=true from hh)) (by omega))|(intro hh;exact P' (Od (show decide (10000<b)=true from hh)) (by omega))|(intro _)|exact rfl)
 exact trivial
noncomputable def va:XR cx:=af 18 Tryz.call18 (bh nO) _ _ (λ_=>⟨[1001],[],[],2⟩) [1001] (λ_=>rfl) follows Tryz.func18 (by kernel_rfl) H9
end
section
open Go.Conc Go.RowKit
variable {a:Act}{y':Code}{ρ:Names}{m n:Nat}{st:St}{W':World}
section
variable {PP:Program}{C:Cx PP}{Γ:List (XR C)}{nt nm0:Nat}{I:Inl}{inls:List Nat}{h:How}{w0:World}{XN:Names}{E:Goroutine->World->Prop}{b:Frame}{cs:List Frame}{k:List Item}
theorem xK(hE:Closed C.P C.co E)(hI:eT C I)(hm:C.P.follows .mixedOrders=true)(X5:∀n b,XN.n n=some b->n<nm0)(XP:∀e l,XN.v e=some l->e<nm0∧l.o<nm0)(XQ:∀m i l,XN.k m i=some l->m<nm0)(hb:b.kind≠.early)(hr:b.roundOf=none){c x y:Code}(hc:c=.seq x y'){K:Ex->St->Prop}(hcut:cutAt h.cuts y=false)(hB:dL h.fl x=true)(he:ev Γ nt nm0 I inls h (.seq x y) st K)(hK:∀e st,K e st->e=.normal){W:World}(hR:Rp C nt w0 XN st ρ a W)(next:∀X4 XM a' W',ev Γ nt nm0 I inls h y X4 K->Rp C nt w0 XN X4 XM a' W'->E (G (b.at a' (.code y'::k)) cs) W'):E (G (b.at a (.code c::k)) cs) W:=by
 subst hc;refine gL hE ?_;simp only[ev,hcut] at he;refine(AV hI hm X5 XP XQ x st _ hB he ρ a W hR) E hE b (.code y'::k) cs hb hr λe a' W' ⟨x',X4,XM,he',hK',hR'⟩=>?_;cases x' with
 | normal=>subst he';exact⟨trivial,next X4 XM a' W' hK' hR'⟩
 | exit i=>exact P' (hK _ _ hK') (by simp)
 | ret=>exact P' (hK _ _ hK') (by simp)
theorem SW(hE:Closed C.P C.co E)(hI:eT C I)(hm:C.P.follows .mixedOrders=true)(X5:∀n b,XN.n n=some b->n<nm0)(XP:∀e l,XN.v e=some l->e<nm0∧l.o<nm0)(XQ:∀m i l,XN.k m i=some l->m<nm0)(hb:b.kind≠.early)(hr:b.roundOf=none){c x:Code}(hc:c=.seq x y'){K:Ex->St->Prop}(hB:dL h.fl x=true)(he:ev Γ nt nm0 I inls h x st K)(hK:∀e st,K e st->e=.normal){W:World}(hR:Rp C nt w0 XN st ρ a W)(next:∀X4 XM a' W',K .normal X4->Rp C nt w0 XN X4 XM a' W'->E (G (b.at a' (.code y'::k)) cs) W'):E (G (b.at a (.code c::k)) cs) W:=by
 subst hc;refine gL hE ?_;refine(AV hI hm X5 XP XQ x st _ hB he ρ a W hR) E hE b (.code y'::k) cs hb hr λe a' W' ⟨x',X4,XM,he',hK',hR'⟩=>?_;obtain rfl:=hK _ _ hK';subst he';exact⟨trivial,next X4 XM a' W' hK' hR'⟩
theorem Jx{a':Act}{W:World}(hR:Rp C nt w0 XN st ρ a W)(r:Rv W W')(hs:a'.tmps.size=nt)(hd:a'.defers=XN.d){Z2:List (Nat×Slot)}{H':aU}{Yl:Nat}(hnm:Yl=st.nm)(hH:∀n sb,look H' n=some sb->look st.H n=some sb)(Z4:∀t s,look Z2 t=some s->s.rg=0∧∃x,den ρ s.v x∧a'.tmps[t]? = some x):Rp C nt w0 XN ⟨Z2,H',Yl,0,[],[]⟩ ρ a' W':=by subst hnm;exact⟨⟨hR.base.mem.gr (db r),λn sb hn=>(hR.base.X'.gr (db r)).blk n sb (hH n sb hn),hs,hd⟩,λt s Ya=>by rw[(Z4 t s Ya).1];exact F2 0,λt s Ya _=>(Z4 t s Ya).2⟩
theorem Rp.later{W:World}(hR:Rp C nt w0 XN st ρ a W)(r:Rv W W'):Rp C nt w0 XN st ρ a W':=⟨⟨hR.base.mem.gr (db r),λn sb hn=>(hR.base.X'.gr (db r)).blk n sb hn,hR.base.sz,hR.base.df⟩,hR.rgs,hR.cw⟩
theorem zE{args:List SV}{vs:List Value}{ze:Nat->Nat->Value->Prop}{W:World}(hn:args.length<=n)(hG:C.ZQ W)(hz:∀b i c,ze b i c->W.cell? ⟨b,i,none⟩=some c∧c.oneCell'=true)(XY:au (aI ze) args vs):Rp C n W (aI ze).YE ⟨bw 0 args,[],0,0,[],[]⟩ (aI ze) {tmps:=vs.toArray++Array.replicate (n-vs.toArray.size) undef,defers:=[]} W:=by have hlen:=aB XY;have hH:=gb hG hz;refine⟨⟨Mem.refl hH.hb (λn b h=>by cases h) (λe l h=>by cases h) (λm i l h=>by cases h),hH.blk,by simp;omega,rfl⟩,λt s hs=>?_,λt s hs hg=>?_⟩;obtain⟨i,v,-,-,rfl⟩:=di hs;exact F2 _;obtain⟨i,v,rfl,hv,rfl⟩:=di hs;obtain⟨u,h1,h2⟩:=eu XY hv;refine⟨u,h2,?_⟩;have hl:i<vs.length:=(F3.1 h1).1;rw[B',Array.getElem?_append_left (by simpa using hl)];simpa using h1
end
section
variable {P:Program}{co:Bool}{E:Goroutine->World->Prop}{b:Frame}{k:List Item}{cs:List Frame}{W:World}
theorem lA(r:Nat)(l:Loop):NS P (setObj r (.loop l)):=⟨trivial,trivial⟩
theorem lC(l:Nat):NS P (Instr.getLoop l):=by unfold Instr.getLoop;refine aa (dY l) λo=>?_;cases o<;>trivial
theorem pa(fn:FuncId)(tmps:Array Value)(ps:Array Tmp)(YI body:Code):NS P (Instr.enterLoop fn tmps ps YI body none):=by unfold Instr.enterLoop;exact⟨trivial,λ_=>⟨trivial,λ_=>trivial⟩⟩
theorem tQ(l:Nat):NS P (Instr.endLoop l):=by unfold Instr.endLoop;refine aa (lC l) λr=>?_;exact bq (aa (bn _) λ_=>aa (lA _ _) λ_=>trivial) (aa (lA _ _) λ_=>trivial)
theorem rO(l:Nat):NS P (Instr.takeDeferred l):=by unfold Instr.takeDeferred;refine aa (dY l) λo=>?_;split;exact⟨trivial,trivial⟩;trivial
theorem Lx{S R:Nat->Prop}{e:Event}(h:EvS S R n e)(hn:n<=m):EvS S R m e:=by unfold EvS at *;split at h;exact⟨h.1,by omega,h.2.2⟩;exact⟨h.1,by omega,h.2.2⟩;exact h;exact h
theorem mw{S R:Nat->Prop}{e:Event}{es:Array Event}{fn:FuncId}(h:∀e∈es,e∈(#[]:Array Event)∨EvS S R m e)(he:e∈seen P fn es):EvS S R m e:=by rcases h e (mem_seen he) with q|q;simp at q;exact q
theorem Hv(hE:Closed P co E){D:Nat}{ds:List Deferred}{todo:List Item}(hd:a.defers = {target:=.collected D,args:=#[]}::ds)(hD:W.heap[D]? = some (.deferred (some [])))
  (h:∀W1,Rv W W1->E (G {b.at ⟨a.tmps,ds⟩ todo with mode:=.returning} cs) (W1.putObj D (.deferred none))):E (G {b.at a todo with mode:=.returning} cs) W:=by
 refine hE.step rfl λW1 r1=>⟨_,_,λmain S R w hv=>?_,h W1 r1⟩
 obtain⟨u,k1,k2,kk,k3⟩:=ck #[] (rO D) hv (run_takeDeferred (P:=P) (r1.heap _ _ hD));refine⟨u,_,?_,k2,kk,λe he=>mw (P:=P) (fn:=b.fn) k3 he⟩;simp[G,stepG,unwind,Frame.at,hd,k1,GStep.after]
theorem LI(hE:Closed P co E)(hk:b.kind≠.early)(YL:b.roundOf=none){g:Operand}{ps:Array Tmp}{YI body:Code}{gf:Nat}{lb:Array Value}(hg:a.eval g=.func (.func gf) #[] lb)(eg:∀args w,(callFunc gf args).run P w=.ok (.enter gf args) w)(ns:∀args,NS P (callFunc gf args)){X:Nat->Nat->World->World->Prop}
  (hit:∀D l W2,Gr W W2->W.heap.size<=D->D<l->l<W2.heap.size->bj P co gf (#[.func (.yield l) #[] #[]]++lb) W2 λe W'=>(∃v,e=.returned v)∧W'.heap[D]? = W2.heap[D]?∧W'.heap[l]? = W2.heap[l]?∧X D l W2 W')
  (hK:∀D l W2 W3 W4 o,Gr W W2->W.heap.size<=D->D<l->l<W2.heap.size->X D l W2 W3->Rv W3 W4->W4.heap[D]? = some (.deferred (some []))->W4.heap[l]? = some (.loop o)->E (G (b.at ⟨a.tmps,{target:=.collected D,args:=#[]}::a.defers⟩ k) cs) (W4.putObj l (.loop {o with state:=.exhausted}))) :
  E (G (b.at a (.code (.rangeFunc g ps YI body)::k)) cs) W:=by
 refine hE.step rfl λW1 r1=>?_;obtain⟨rec,Y3⟩:∃rec:LoopState->Loop,rec=λs=>{state:=s,pending:=none,fn:=b.fn,tmps:=a.tmps,params:=ps,assign:=YI,body,defers:=W1.heap.size}:=⟨_,rfl⟩
 obtain⟨W2,hW2⟩:∃W2,(W1.alloc (.deferred (some []))).alloc (.loop (rec .ready))=W2:=⟨_,rfl⟩
 have hg12:Gr W1 W2:=by rw[<-hW2];exact((Gr.refl W1).alloc _).alloc _
 have hL2:W2.heap[W1.heap.size+1]? = some (.loop (rec .ready)):=by rw[<-hW2];have:=World.alloc_heap_new (W1.alloc (.deferred (some []))) (.loop (rec .ready));rwa [World.size_alloc] at this
 have hD2:W2.heap[W1.heap.size]? = some (.deferred (some [])):=by rw[<-hW2];exact(Below.heap_alloc _ _ _ (by simp)).trans (World.alloc_heap_new W1 _)
 have X0:W1.heap.size+1<W2.heap.size:=(E'.1 hL2).1;have e1:(Instr.enterLoop b.fn a.tmps ps YI body none).run P W1=.ok (W1.heap.size+1,[{target:=.collected W1.heap.size,args:=#[]}]) W2:=by rw[<-hW2,Y3];exact run_enterLoop_outer _ _ _ _ _
 have hs1:=r1.size;have g02:Gr W W2:=(db r1).trans hg12;let a':Act:=⟨a.tmps,{target:=.collected W1.heap.size,args:=#[]}::a.defers⟩
 refine⟨G (Frame.enter P gf (#[.func (.yield (W1.heap.size+1)) #[] #[]]++lb) .normal) (b.at a' (.inRangeFunc (W1.heap.size+1)::k)::cs),W2,λmain S R w hv=>?_,?_⟩;obtain⟨u,k1,k2,kk,k3⟩:=ck #[] (pa _ _ _ _ _) hv e1;obtain⟨u2,k4,k5,kk2,k6⟩:=ck #[] (ns (#[.func (.yield (W1.heap.size+1)) #[] #[]]++lb)) k2 (eg _ W2);have ZH:(b.kind==CallKind.early)=false:=(by simpa using hk);refine⟨u2,seen P b.fn ((Instr.enterLoop b.fn a.tmps ps YI body none).events P w #[])++seen P b.fn ((callFunc gf (#[.func (.yield (W1.heap.size+1)) #[] #[]]++lb)).events P u #[]),?_,k5,kk.trans kk2,λe he=>?_⟩;have hres:∀(f:Frame),f.tmps=a.tmps->(do let d <-resolve f.eval {callee:=.value g,args:=#[.const (.func (.yield (W1.heap.size+1)) #[] #[])],argTypes:=#[]} 0;invoke d.target d.args)=callFunc gf (#[.func (.yield (W1.heap.size+1)) #[] #[]]++lb):=λf hf=>(by have Z1:f.eval g=.func (.func gf) #[] lb:=(by rw[<-hg];cases g<;>simp[Frame.eval,Act.eval,hf]);have hc:∀v,f.eval (.const v)=v:=λ_=>rfl;simp only[resolve,Z1,Deferred.ofValue,List.map_toArray,List.map_cons,List.map_nil,hc];simp[invoke]);have happ:∀(fr:Frame) (s:Sem Next),fr.fn=b.fn->fr.kind=b.kind->fr.todo=.inRangeFunc (W1.heap.size+1)::k->s=callFunc gf (#[.func (.yield (W1.heap.size+1)) #[] #[]]++lb)->stepG.apply P true fr cs none s u=.go {frame:=Frame.enter P gf (#[.func (.yield (W1.heap.size+1)) #[] #[]]++lb) .normal,callers:=fr::cs,status:=.running,dying:=none} u2 (seen P b.fn ((callFunc gf (#[.func (.yield (W1.heap.size+1)) #[] #[]]++lb)).events P u #[])):=λfr s f1 f2 f3 f4=>(by subst f4;simp[stepG.apply,k4,f1,f2,f3,ZH,GStep.after]);simp only[G,stepG,stepG.exec,Frame.at,YL];simp[k1];have hx:=happ {fn:=b.fn,tmps:=a.tmps,todo:=.inRangeFunc (W1.heap.size+1)::k,defers:={target:=.collected W1.heap.size,args:=#[]}::a.defers,mode:=.run,kind:=b.kind} _ rfl rfl rfl (hres {fn:=b.fn,tmps:=a.tmps,todo:=.inRangeFunc (W1.heap.size+1)::k,defers:={target:=.collected W1.heap.size,args:=#[]}::a.defers,mode:=.run,kind:=b.kind} rfl);refine(O' (GStep.after _) hx).trans ?_;simp[GStep.after,a'];rcases Array.mem_append.1 he with he|he;exact Lx (mw (P:=P) k3 he) kk2.size;exact mw (P:=P) k6 he;refine hit W1.heap.size (W1.heap.size+1) W2 g02 hs1 (by omega) X0 E hE _ λe W3 fr hR hfn hl=>?_;obtain⟨⟨v,rfl⟩,hD,hL,hX⟩:=hR;obtain⟨l1,l2,l3,fn,l4,l5⟩:=hl;have hL3:=hL.trans hL2;have hD3:=hD.trans hD2;refine hE.step rfl λW4 r4=>⟨G (b.at a' (.endRangeFunc (W1.heap.size+1)::k)) cs,W4,λmain S R w hv=>?_,?_⟩
 have e1:=pd r4 hv (dz fn fr.tmps) l5;obtain⟨u,k1,k2,kk,k3⟩:=ck #[] (dz fn fr.tmps).ns hv e1;refine⟨u,seen P fr.fn ((results fn fr.tmps).events P w #[]),?_,k2,kk,λe he=>mw (P:=P) k3 he⟩;obtain⟨ffn,ftmps,ftodo,fdefers,fmode,fkind,fround⟩:=fr;simp only at l1 l2 l3 l4 k1;subst l1 l2 l3;simp[G,stepG,unwind,doReturn,l4,k1,GStep.after,Frame.finish,Frame.at];refine hE.step rfl λW5 r5=>⟨G (b.at a' k) cs,W5.putObj (W1.heap.size+1) (.loop {rec .ready with state:=.exhausted}),λmain S R w hv=>?_,?_⟩
 ·have hL5:=(r5.heap _ _ (r4.heap _ _ hL3))
  have e5:=run_endLoop (P:=P) hL5 (by rw[Y3];simp);have hp:(rec .ready).pending=none:=(by rw[Y3]);obtain⟨u,k1,k2,kk,k3⟩:=ck #[] (tQ (W1.heap.size+1)) hv e5;refine⟨u,seen P b.fn ((Instr.endLoop (W1.heap.size+1)).events P w #[]),?_,k2,kk,λe he=>mw (P:=P) k3 he⟩;simp[G,stepG,stepG.exec,Frame.at,k1,hp,GStep.after,a']
 exact hK _ _ W2 W3 W5 _ g02 hs1 (by omega) X0 hX (r4.trans r5) (r5.heap _ _ (r4.heap _ _ hD3)) (r5.heap _ _ (r4.heap _ _ hL3))
end
end
end Go.Proofs.YtmdpdknpapjchaaGreatDoor
