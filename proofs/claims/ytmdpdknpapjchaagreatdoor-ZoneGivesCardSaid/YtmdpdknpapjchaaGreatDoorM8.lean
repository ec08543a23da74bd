/- A symbolic executor with lists. -/
import Derived.Test.YtmdpdknpapjchaaGreatDoorM7
set_option linter.all false
namespace Go.Proofs.YtmdpdknpapjchaaGreatDoor
section
open Go.RowKit
variable {op:BinOp}{la lb lit:Bool}{a b n:Int}{k:IntKind}{ρ:Names}{P:Program}{x:SV}{t:TypeId}{w:World}
structure DR where
 ob:Option Prop
 v:SV
 w:Option (Nat×SB)
 fr:Bool
variable {r:DR}
def ox:Option Prop->Prop
 | none=>True
 | some p=>p
def DR.Ob(r:DR):Prop:=ox r.ob
def dv(v:SV):Option DR:=some ⟨none,v,none,false⟩
def dvo(p:Prop)(v:SV):Option DR:=some ⟨some p,v,none,false⟩
def Yd(n:Int):Prop:=-9223372036854775808<=n∧n<=9223372036854775807
theorem Yd.wrap{n:Int}(h:Yd n):IntKind.i64.wrap n=n:=by
 have e1:((2:Int)^IntKind.i64.bits)=18446744073709551616:=by decide
 have e2:((2:Int)^(IntKind.i64.bits-1))=9223372036854775808:=by decide
 unfold Yd at h;unfold IntKind.wrap;rw[e1,e2];simp only[IntKind.signed,Bool.true_and,U'];split<;>omega
def KW:Int->Bool
 | .ofNat m=>Nat.ble m 9223372036854775807
 | .negSucc m=>Nat.ble m 9223372036854775807
theorem sK(h:KW n=true):Yd n:=by
 cases n with
 | ofNat m=>have:=F4 h;unfold Yd;simp only[Int.ofNat_eq_natCast];omega
 | negSucc m=>have:=F4 h;unfold Yd;omega
def SV.int?:SV->Option (IntKind×Int)
 | .il k n=>some (k,n)
 | .v (.int k n)=>some (k,n)
 | _=>none
theorem SV.int?_den{y:Value}(h:x.int? = some (k,n))(hd:den ρ x y):y=.int k n:=by unfold SV.int? at h;split at h;obtain⟨rfl,rfl⟩:=F7 (Oi h);exact hd;obtain⟨rfl,rfl⟩:=F7 (Oi h);exact hd;cases h
def SV.bool?:SV->Option Bool
 | .bl b=>some b
 | .v (.bool b)=>some b
 | _=>none
theorem SV.bool?_den{b:Bool}{y:Value}(h:x.bool? = some b)(hd:den ρ x y):y=.bool b:=by unfold SV.bool? at h;split at h;obtain rfl:=Oi h;exact hd;obtain rfl:=Oi h;exact hd;cases h
def Rn:IntKind->Bool
 | .i64=>true
 | _=>false
theorem uj(h:Rn k=true):k=.i64:=by cases k<;>first|rfl|cases h
def ml:IntKind->IntKind->Bool
 | .i8,.i8=>true|.i16,.i16=>true|.i32,.i32=>true|.i64,.i64=>true
 | .u8,.u8=>true|.u16,.u16=>true|.u32,.u32=>true|.u64,.u64=>true
 | _,_=>false
theorem gC{k':IntKind}(h:ml k k'=true):k=k':=by cases k<;>cases k'<;>first|rfl|cases h
def arI(k:IntKind)(lit:Bool)(p:Option Prop)(n:Int):Option DR:=
 match Rn k,lit,p with
 | true,true,none=>match KW n with|true=>dv (.il .i64 n)|false=>none
 | true,_,none=>dvo (Yd n) (.v (.int .i64 n))
 | true,_,some p=>dvo (p∧Yd n) (.v (.int .i64 n))
 | false,true,none=>dv (.il k (k.wrap n))
 | false,_,none=>dv (.v (.int k (k.wrap n)))
 | false,_,some p=>dvo p (.v (.int k (k.wrap n)))
def raI(k:IntKind)(lit:Bool)(p:Option Prop)(n:Int):Option DR:=
 match lit,p with
 | true,none=>dv (.il k n)
 | _,none=>dv (.v (.int k n))
 | _,some p=>dvo p (.v (.int k n))
def cmI(lit:Bool)(b:Bool):Option DR:=match lit with|true=>dv (.bl b)|false=>dv (.v (.bool b))
def eS(op:BinOp)(k:IntKind)(a b:Int):Int:=
 match op with
 | .and=>k.wrap (BitVec.ofInt k.bits a &&& BitVec.ofInt k.bits b).toNat
 | .or=>k.wrap (BitVec.ofInt k.bits a ||| BitVec.ofInt k.bits b).toNat
 | .xor=>k.wrap (BitVec.ofInt k.bits a ^^^ BitVec.ofInt k.bits b).toNat
 | _=>k.wrap (BitVec.ofInt k.bits a &&& ~~~(BitVec.ofInt k.bits b)).toNat
def nzO(l:Bool)(b:Int):Option Prop:=match l with|true=>(match b with|.ofNat 0=>some (¬b=0)|_=>none)|false=>some (¬b=0)
def geO(l:Bool)(b:Int):Option Prop:=match l with|true=>(match b with|.ofNat _=>none|_=>some (0<=b))|false=>some (0<=b)
theorem J6{l:Bool}(h:ox (nzO l b)):¬b=0:=by unfold nzO at h;split at h;split at h;exact h;rename_i hn;intro e;subst e;exact hn rfl;exact h
theorem K9{l:Bool}(h:ox (geO l b)):0<=b:=by unfold geO at h;split at h;split at h;exact Int.natCast_nonneg _;exact h;exact h
def yQ(op:BinOp)(k:IntKind)(la lb:Bool)(a b:Int):Option DR:=
 match op with
 | .add=>arI k (la&&lb) none (a+b)
 | .sub=>arI k (la&&lb) none (a-b)
 | .mul=>arI k (la&&lb) none (a*b)
 | .lss=>cmI (la&&lb) (decide (a<b))
 | .leq=>cmI (la&&lb) (decide (a<=b))
 | .gtr=>cmI (la&&lb) (decide (b<a))
 | .geq=>cmI (la&&lb) (decide (b<=a))
 | .eql=>cmI (la&&lb) (decide (a=b))
 | .neq=>cmI (la&&lb) (decide (¬a=b))
 | .quo=>arI k (la&&lb) (nzO lb b) (a.tdiv b)
 | .rem=>raI k (la&&lb) (nzO lb b) (a.tmod b)
 | .and=>raI k false none (eS .and k a b)
 | .or=>raI k false none (eS .or k a b)
 | .xor=>raI k false none (eS .xor k a b)
 | .andNot=>raI k false none (eS .andNot k a b)
 | _=>none
def En(op:BinOp)(k:IntKind)(la lb:Bool)(a b:Int):Option DR:=
 match op with
 | .shl=>raI k (la&&lb) (geO lb b) (k.wrap (a*2^(min b.toNat k.bits)))
 | .shr=>raI k (la&&lb) (geO lb b) (a.fdiv (2^(min b.toNat k.bits)))
 | _=>none
theorem VH{v:SV}(h:dv v=some r):r.w=none∧r.fr=false∧r.v=v:=by obtain rfl:=Oi h;exact⟨rfl,rfl,rfl⟩
def Yields(r:DR)(ρ:Names)(y:Value):Prop:=r.w=none∧r.fr=false∧den ρ r.v y
theorem qM{p:Option Prop}(h:arI k lit p n=some r)(ho:r.Ob):ox p∧Yields r ρ (.int k (k.wrap n)):=by unfold arI at h;split at h;rename_i hk;obtain rfl:=uj hk;split at h;rename_i hb;obtain rfl:=Oi h;exact⟨trivial,rfl,rfl,by show _=_;rw[(sK hb).wrap]⟩;cases h;rename_i hk _;obtain rfl:=uj hk;obtain rfl:=Oi h;exact⟨trivial,rfl,rfl,by show _=_;rw[Yd.wrap ho]⟩;rename_i hk;obtain rfl:=uj hk;obtain rfl:=Oi h;exact⟨ho.1,rfl,rfl,by show _=_;rw[Yd.wrap ho.2]⟩;obtain rfl:=Oi h;exact⟨trivial,rfl,rfl,rfl⟩;obtain rfl:=Oi h;exact⟨trivial,rfl,rfl,rfl⟩;obtain rfl:=Oi h;exact⟨ho,rfl,rfl,rfl⟩
theorem ou{p:Option Prop}(h:raI k lit p n=some r)(ho:r.Ob):ox p∧Yields r ρ (.int k n):=by unfold raI at h;split at h;obtain rfl:=Oi h;exact⟨trivial,rfl,rfl,rfl⟩;obtain rfl:=Oi h;exact⟨trivial,rfl,rfl,rfl⟩;obtain rfl:=Oi h;exact⟨ho,rfl,rfl,rfl⟩
theorem qK{c:Bool}(h:cmI lit c=some r):Yields r ρ (.bool c):=by unfold cmI at h;split at h<;>obtain rfl:=Oi h<;>exact⟨rfl,rfl,rfl⟩
theorem bK(h1:op≠.shl)(h2:op≠.shr) :
  (binOp op t (.int k a) (.int k b)).run P w=(match op with
   | .add|.sub|.mul=>Op.intArith op k a b
   | .quo|.rem=>Op.intDiv op k a b
   | .and|.or|.xor|.andNot=>Op.intBits op k a b
   | _=>Op.intCmp op a b).run P w:=by
 cases op<;>first|exact P' rfl h1|exact P' rfl h2|simp[binOp]
theorem xj(h:yQ op k la lb a b=some r)(ho:r.Ob) :
  ∃y,Yields r ρ y∧(binOp op t (.int k a) (.int k b)).run P w=.ok y w:=by
 unfold yQ at h;split at h;exact⟨_,(qM h ho).2,by rw[bK (by decide) (by decide)];rfl⟩;exact⟨_,(qM h ho).2,by rw[bK (by decide) (by decide)];rfl⟩;exact⟨_,(qM h ho).2,by rw[bK (by decide) (by decide)];rfl⟩;exact⟨_,qK h,by rw[bK (by decide) (by decide)];rfl⟩;exact⟨_,qK h,by rw[bK (by decide) (by decide)];rfl⟩;exact⟨_,qK h,by rw[bK (by decide) (by decide)];rfl⟩;exact⟨_,qK h,by rw[bK (by decide) (by decide)];rfl⟩;exact⟨_,qK h,by rw[bK (by decide) (by decide)];rfl⟩;exact⟨_,qK h,by rw[bK (by decide) (by decide),decide_not];rfl⟩;obtain⟨h1,h2⟩:=qM (ρ:=ρ) h ho;have h1:=J6 h1;exact⟨_,h2,by rw[bK (by decide) (by decide)];simp only[Op.intDiv,Xk h1,Xy]⟩;obtain⟨h1,h2⟩:=ou (ρ:=ρ) h ho;have h1:=J6 h1;exact⟨_,h2,by rw[bK (by decide) (by decide)];simp only[Op.intDiv,Xk h1,Xy]⟩;exact⟨_,(ou h ho).2,by rw[bK (by decide) (by decide)];rfl⟩;exact⟨_,(ou h ho).2,by rw[bK (by decide) (by decide)];rfl⟩;exact⟨_,(ou h ho).2,by rw[bK (by decide) (by decide)];rfl⟩;exact⟨_,(ou h ho).2,by rw[bK (by decide) (by decide)];rfl⟩;cases h
def yP(op:BinOp)(k:IntKind)(la lb:Bool)(a b:Int):Option DR:=
 match la&&lb,op with
 | false,.add=>dv (.v (.int k (k.wrap (a+b))))
 | false,.sub=>dv (.v (.int k (k.wrap (a-b))))
 | false,.mul=>dv (.v (.int k (k.wrap (a*b))))
 | _,_=>yQ op k la lb a b
theorem xo{v:Value}(h:dv (.v v)=some r):Yields r ρ v:=by obtain rfl:=Oi h;exact⟨rfl,rfl,rfl⟩
theorem Dr(h:yP op k la lb a b=some r)(ho:r.Ob) :
  ∃y,Yields r ρ y∧(binOp op t (.int k a) (.int k b)).run P w=.ok y w:=by
 unfold yP at h;split at h;exact⟨_,xo h,by rw[bK (by decide) (by decide)];rfl⟩;exact⟨_,xo h,by rw[bK (by decide) (by decide)];rfl⟩;exact⟨_,xo h,by rw[bK (by decide) (by decide)];rfl⟩;exact xj h ho
theorem zx{k':IntKind}(h:En op k la lb a b=some r)(ho:r.Ob) :
  ∃y,Yields r ρ y∧(binOp op t (.int k a) (.int k' b)).run P w=.ok y w:=by
 unfold En at h;split at h;obtain⟨h1,h2⟩:=ou (ρ:=ρ) h ho;have h1:¬b<0:=(by have:=K9 h1;omega);exact⟨_,h2,by simp only[binOp,Op.shift,Xk h1,Xy]⟩;obtain⟨h1,h2⟩:=ou (ρ:=ρ) h ho;have h1:¬b<0:=(by have:=K9 h1;omega);exact⟨_,h2,by simp only[binOp,Op.shift,Xk h1,Xy]⟩;cases h
def JS(b:Bool)(x y:SV):Option SV:=
 match x,y with
 | .bl true,y=>match y.bool? with|some c=>some (.v (.bool (b||c)))|none=>none
 | x,.bl false=>match x.bool? with|some c=>some (.v (.bool (b&&c)))|none=>none
 | x,y=>match x.bool?,y.bool? with
  | some c,some d=>some (.v (.bool (if b then c else d)))
  | _,_=>match x.int?,y.int? with
   | some (k,m),some (k',n)=>match ml k k' with|true=>some (.v (.int k (if b then m else n)))|false=>none
   | _,_=>none
theorem JR{b:Bool}{y z:SV}{u v:Value}(h:JS b x y=some z)(hx:b=true->den ρ x u)(hy:b=false->den ρ y v):den ρ z (if b then u else v):=by unfold JS at h;split at h;split at h;rename_i c hc;obtain rfl:=Oi h;cases b;rw[SV.bool?_den hc (hy rfl)];rfl;have:u=.bool true:=hx rfl;rw[this];rfl;cases h;split at h;rename_i c hc;obtain rfl:=Oi h;cases b;have:v=.bool false:=hy rfl;rw[this];rfl;rw[SV.bool?_den hc (hx rfl)];rfl;cases h;split at h;rename_i c d hc hd;obtain rfl:=Oi h;cases b;rw[SV.bool?_den hd (hy rfl)];rfl;rw[SV.bool?_den hc (hx rfl)];rfl;split at h;rename_i k m k' n hm hn;split at h;rename_i hk;obtain rfl:=gC hk;obtain rfl:=Oi h;cases b;rw[SV.int?_den hn (hy rfl)];rfl;rw[SV.int?_den hm (hx rfl)];rfl;cases h;cases h
def SV.iv:SV->Int
 | .il _ n=>n
 | .v (.int _ n)=>n
 | _=>0
def SV.bv:SV->Bool
 | .bl b=>b
 | .v (.bool b)=>b
 | _=>false
def SV.str:SV->ByteArray
 | .v (.string q)=>q
 | _=>⟨#[]⟩
def SV.txt:SV->Bool
 | .v (.string _)=>true
 | _=>false
def SV.rn:SV->Nat
 | .rs _ n _=>n
 | _=>0
def SV.rf:SV->Nat->List SV
 | .rs _ _ h=>h
 | _=>λ_=>[]
def SV.al:SV->List SV
 | .agg l=>l
 | _=>[]
def YQ:List SV->SV
 | x::_=>x
 | []=>.e
def Yz:List SV->List SV
 | _::r=>r
 | []=>[]
mutual
def jn(c:Bool):SV->SV->SV
 | .v (.int k b),x=>.v (.int k (bif c then b else x.iv))
 | .il k b,x=>.v (.int k (bif c then b else x.iv))
 | .v (.bool b),x=>.v (.bool (bif c then b else x.bv))
 | .v (.string b),x=>.v (.string (bif c then b else x.str))
 | .bl b,x=>.v (.bool (bif c then b else x.bv))
 | .rs sz n f,x=>.rs sz (bif c then n else x.rn) (λi=>jnL c (f i) (x.rf i))
 | .agg l,x=>.agg (jnL c l x.al)
 | y,x=>bif c then y else x
def jnL(c:Bool):List SV->List SV->List SV
 | [],_=>[]
 | y::r,x=>jn c y (YQ x)::jnL c r (Yz x)
end
mutual
def alike:SV->SV->Prop
 | .v (.int k _),x=>match x.int? with|some (k',_)=>k'=k|none=>False
 | .il k _,x=>match x.int? with|some (k',_)=>k'=k|none=>False
 | .v (.bool _),x=>match x.bool? with|some _=>True|none=>False
 | .v (.string _),x=>match x.txt with|true=>True|false=>False
 | .bl _,x=>match x.bool? with|some _=>True|none=>False
 | .rs sz _ f,x=>match x with
  | .rs Yb n' f'=>Yb=sz∧∀i,i<n'->dD (f i) (f' i)
  | .e=>True
  | .v (.slice none 0 0)=>True
  | _=>False
 | .agg l,x=>match x with|.agg m=>dD l m|_=>False
 | _,_=>True
def dD:List SV->List SV->Prop
 | [],x=>match x with|[]=>True|_::_=>False
 | y::r,x=>match x with|[]=>False|x::s=>alike y x∧dD r s
end
mutual
theorem OX{ρ:Names} : ∀(y x:SV) (v:Value),den ρ y v->den ρ (jn true y x) v
 | .v z,x,v,h=>by cases z<;>exact h
 | .il k b,x,v,h=>h
 | .bl b,x,v,h=>h
 | .rs sz n f,x,v,⟨a,cap,e1,e2,e3⟩=>⟨a,cap,e1,e2,λi hi=>let ⟨b,o,u,k1,k2,k3⟩:=e3 i hi;⟨b,o,u,k1,eQ (f i) _ u k2,k3⟩⟩
 | .p _ _,x,v,h=>h
 | .s _ _ _ _ _,x,v,h=>h
 | .f _ _ _,x,v,h=>h
 | .agg l,x,v,⟨u,e1,e2⟩=>⟨u,eQ l _ u e1,e2⟩
 | .tup _,x,v,h=>h
 | .e,x,v,h=>h
 | .rp _ _,x,v,h=>h
 | .g _ _ _ _ _,x,v,h=>h
 | .gp _ _ _ _ _,x,v,h=>h
 | .kd _ _ _ _ _,x,v,h=>h
 | .kq _ _ _ _ _,x,v,h=>h
 | .m _,x,v,h=>h
theorem eQ{ρ:Names} : ∀(y x:List SV) (v:List Value),au ρ y v->au ρ (jnL true y x) v
 | [],x,v,h=>h
 | y::r,x,v,⟨a,b,e1,e2,e3⟩=>⟨a,b,e1,OX y _ a e2,eQ r _ b e3⟩
end
mutual
theorem KH{ρ:Names} : ∀(y x:SV) (v:Value),alike y x->den ρ x v->den ρ (jn false y x) v
 | .v z,x,v,ha,h=>by
  cases z
  case int k b=>
   simp only[alike] at ha;split at ha;rename_i k' n hn;subst ha;have:x.iv=n:=(by unfold SV.int? at hn;split at hn<;>first|(obtain⟨rfl,rfl⟩:=F7 (Oi hn);rfl)|cases hn);rw[SV.int?_den hn h];show _=Value.int _ x.iv;rw[this];exact ha.elim
  case bool b=>
   simp only[alike] at ha;split at ha;rename_i n hn;have:x.bv=n:=(by unfold SV.bool? at hn;split at hn<;>first|(obtain rfl:=Oi hn;rfl)|cases hn);rw[SV.bool?_den hn h];show _=Value.bool x.bv;rw[this];exact ha.elim
  case string b=>
   simp only[alike] at ha;split at ha;rename_i hn;unfold SV.txt at hn;split at hn;exact h;cases hn;exact ha.elim
  all_goals exact h
 | .il k b,x,v,ha,h=>by simp only[alike] at ha;split at ha;rename_i k' n hn;subst ha;have:x.iv=n:=(by unfold SV.int? at hn;split at hn<;>first|(obtain⟨rfl,rfl⟩:=F7 (Oi hn);rfl)|cases hn);rw[SV.int?_den hn h];show _=Value.int _ x.iv;rw[this];exact ha.elim
 | .bl b,x,v,ha,h=>by simp only[alike] at ha;split at ha;rename_i n hn;have:x.bv=n:=(by unfold SV.bool? at hn;split at hn<;>first|(obtain rfl:=Oi hn;rfl)|cases hn);rw[SV.bool?_den hn h];show _=Value.bool x.bv;rw[this];exact ha.elim
 | .rs sz n f,x,v,ha,h=>by simp only[alike] at ha;split at ha;rename_i Yb n' f';obtain⟨rfl,ha⟩:=ha;obtain⟨a,cap,e1,e2,e3⟩:=h;exact⟨a,cap,e1,e2,λi hi=>let ⟨b,o,u,k1,k2,k3⟩:=e3 i hi;⟨b,o,u,k1,bZ (f i) _ u (ha i hi) k2,k3⟩⟩;obtain⟨a,rfl⟩:=h;exact⟨a,0,rfl,F2 _,λi hi=>P' hi (F1 i)⟩;obtain rfl:v=_:=h;exact⟨none,0,rfl,F2 _,λi hi=>P' hi (F1 i)⟩;exact ha.elim
 | .p _ _,x,v,_,h=>h
 | .s _ _ _ _ _,x,v,_,h=>h
 | .f _ _ _,x,v,_,h=>h
 | .agg l,x,v,ha,h=>by simp only[alike] at ha;split at ha;obtain⟨u,e1,e2⟩:=h;exact⟨u,bZ l _ u ha e1,e2⟩;exact ha.elim
 | .tup _,x,v,_,h=>h
 | .e,x,v,_,h=>h
 | .rp _ _,x,v,_,h=>h
 | .g _ _ _ _ _,x,v,_,h=>h
 | .gp _ _ _ _ _,x,v,_,h=>h
 | .kd _ _ _ _ _,x,v,_,h=>h
 | .kq _ _ _ _ _,x,v,_,h=>h
 | .m _,x,v,_,h=>h
theorem bZ{ρ:Names} : ∀(y x:List SV) (v:List Value),dD y x->au ρ x v->au ρ (jnL false y x) v
 | [],x,v,ha,h=>by
  cases x with
  | nil=>exact h
  | cons _ _=>exact ha.elim
 | y::r,x,v,ha,h=>by
  cases x with
  | nil=>exact ha.elim
  | cons x s=>
   obtain⟨a,b,e1,e2,e3⟩:=h;exact⟨a,b,e1,KH y x a ha.1 e2,bZ r s b ha.2 e3⟩
end
def aD:List Prop->Prop
 | []=>True
 | [p]=>p
 | p::r=>p∧aD r
theorem du{p:Prop}{r:List Prop}(h:aD (p::r)):p∧aD r:=by
 cases r with
 | nil=>exact⟨h,trivial⟩
 | cons q r=>exact h
theorem b8:∀{l m:List Prop},aD (l++m)->aD l∧aD m
 | [],m,h=>⟨trivial,h⟩
 | p::r,m,h=>by
  obtain⟨h1,h2⟩:=du (r:=r++m) h;obtain⟨h3,h4⟩:=b8 h2;refine⟨?_,h4⟩;cases r with
  | nil=>exact h1
  | cons q r=>exact⟨h1,h3⟩
def aT:Option (List Prop)->Prop
 | some l=>aD l
 | none=>False
def isInt(k:IntKind)(x:SV):Option (List Prop):=match x.int? with|none=>none|some (k',_)=>match ml k' k with|true=>some []|false=>none
def isBool(x:SV):Option (List Prop):=match x.bool? with|some _=>some []|none=>none
mutual
def vn:SV->SV->Option (List Prop)
 | .v (.int k _),x=>isInt k x
 | .il k _,x=>isInt k x
 | .v (.bool _),x=>isBool x
 | .v (.string _),x=>match x.txt with|true=>some []|false=>none
 | .bl _,x=>isBool x
 | .rs sz _ f,x=>match x with
  | .rs Yb n' f'=>match Nat.beq Yb sz with|true=>some [∀i,i<n'->aT (fL (f i) (f' i))]|false=>none
  | .e=>some []
  | .v (.slice none 0 0)=>some []
  | _=>none
 | .agg l,x=>match x with|.agg m=>fL l m|_=>none
 | _,_=>some []
def fL:List SV->List SV->Option (List Prop)
 | [],x=>match x with|[]=>some []|_::_=>none
 | y::r,x=>match x with
  | []=>none
  | x::s=>match vn y x,fL r s with|some a,some b=>some (a++b)|_,_=>none
end
theorem At{l:List Prop}(h:isInt k x=some l):match x.int? with|some (k',_)=>k'=k|none=>False:=by
 unfold isInt at h;cases hx:x.int? with
 | none=>rw[hx] at h;cases h
 | some p=>
  rw[hx] at h;simp only at h ⊢;split at h;rename_i hk;exact gC hk;cases h
theorem wM{l:List Prop}(h:isBool x=some l):match x.bool? with|some _=>True|none=>False:=by
 unfold isBool at h;cases hx:x.bool? with
 | none=>rw[hx] at h;cases h
 | some p=>trivial
mutual
theorem H5:∀(y x:SV) (l:List Prop),vn y x=some l->aD l->alike y x
 | .v z,x,l,h,hc=>by
  cases z
  case int k b=>exact At h
  case bool b=>exact wM h
  case string b=>
   simp only[vn] at h;simp only[alike];split at h
   ·first|trivial|(rename_i hn;rw[hn];trivial)
   cases h
  all_goals exact trivial
 | .il k b,x,l,h,hc=>At h
 | .bl b,x,l,h,hc=>wM h
 | .rs sz n f,x,l,h,hc=>by
  simp only[vn] at h;split at h
  ·rename_i Yb n' f';split at h
   ·rename_i hb;have hb:=Nb hb;obtain rfl:=Oi h;refine⟨hb,λi hi=>?_⟩;have:=hc i hi;cases hq:fL (f i) (f' i) with
    | none=>rw[hq] at this;exact this.elim
    | some q=>rw[hq] at this;exact fY _ _ q hq this
   cases h
  trivial;trivial;cases h
 | .agg m,x,l,h,hc=>by simp only[vn] at h;split at h;exact fY _ _ l h hc;cases h
 | .p _ _,x,_,_,h=>trivial
 | .s _ _ _ _ _,x,_,_,h=>trivial
 | .f _ _ _,x,_,_,h=>trivial
 | .tup _,x,_,_,h=>trivial
 | .e,x,_,_,h=>trivial
 | .rp _ _,x,_,_,h=>trivial
 | .g _ _ _ _ _,x,_,_,h=>trivial
 | .gp _ _ _ _ _,x,_,_,h=>trivial
 | .kd _ _ _ _ _,x,_,_,h=>trivial
 | .kq _ _ _ _ _,x,_,_,h=>trivial
 | .m _,x,_,_,h=>trivial
theorem fY:∀(y x:List SV) (l:List Prop),fL y x=some l->aD l->dD y x
 | [],x,l,h,hc=>by
  cases x with
  | nil=>trivial
  | cons _ _=>cases h
 | y::r,x,l,h,hc=>by
  cases x with
  | nil=>cases h
  | cons x s=>
   simp only[fL] at h;split at h;rename_i a b h1 h2;obtain rfl:=Oi h;obtain⟨c1,c2⟩:=b8 hc;exact⟨H5 y x a h1 c1,fY r s b h2 c2⟩;cases h
end
end
section
open Go.Conc
variable {α β:Type}{m:Sem α}
section
variable {P:Program}
theorem aa{f:α->Sem β}(h:NS P m)(k:∀a,NS P (f a)):NS P (m >>= f):=NS.bind h k
theorem bq{c:Prop}[Decidable c]{a b:Sem α}(h:NS P a)(k:NS P b):NS P (if c then a else b):=by split<;>assumption
theorem bG(q:Question):NS P (choose q):=λ_=>trivial
theorem g9{f:Program->Sem β}(h:NS P (f P)):NS P (program >>= f):=h
theorem aW(t:TypeId):NS P (typeInfo t):=(ry t).ns
theorem az(t:TypeId):NS P (underlying t):=by unfold underlying;refine g9 ?_;split<;>trivial
theorem br(t:TypeId):NS P (sizeOf t):=(wG t).ns
theorem cq(t:TypeId):NS P (isAgg t):=(Aj t).ns
theorem aV(t:TypeId):NS P (zeroValue t):=by unfold zeroValue;refine aa (aW t) λi=>?_;split<;>trivial
theorem dP(e:TypeId)(cs:Array Value):NS P (newRow e cs):=⟨trivial,λ_=>trivial⟩
theorem bF(e:TypeId)(v:Value):NS P (newVar e v):=dP _ _
theorem bD(t:TypeId)(a:Addr):NS P (loadVar t a):=(ud t a).ns
theorem bd(a:Addr)(n:Nat):NS P (loadCells a n):=(mA a n 0 #[]).ns
theorem dY(r:Nat):NS P (getObj r):=λ_=>trivial
theorem gg(r:Nat)(es:Array MapEntry)(c:Nat):NS P (setObj r (.map es c)):=⟨trivial,trivial⟩
theorem aO(a:Addr):∀(vs:List Value) (i:Nat),NS P (storeCells a vs i)
 | [],_=>trivial
 | v::r,i=>aO a r (i+1)
theorem bm(t:TypeId)(a:Addr)(v:Value):NS P (storeVar t a v):=by unfold storeVar;refine aa (br t) λn=>?_;split;trivial;exact aO _ _ _
theorem bn(e:RuntimeError):NS P (runtimePanic e:Sem α):=by
 unfold runtimePanic;refine g9 ?_;cases e<;>first|trivial|skip
 refine aa (aa (az _) λd=>by split<;>trivial) λe=>aa (bF _ _) λr=>trivial;refine aa (aa (az _) λd=>by split<;>trivial) λe=>aa (bF _ _) λr=>trivial
theorem Sv(f:α->β)(h:NS P m):NS P (f <$> m):=by rw[map_eq_pure_bind];exact aa h λ_=>trivial
theorem cm(k:IntKind)(x y:Int)(c:BoundsCode):NS P (boundsPanic k x y c:Sem α):=by
 unfold boundsPanic;try dsimp only
 repeat' (first|exact trivial|exact aV _|exact az _|exact aW _|exact br _|exact cq _|exact dP _ _|exact bF _ _|exact bD _ _|exact bd _ _|exact aO _ _ _|exact bm _ _ _|exact bn _|exact bG _|exact Sv _ (bG _)|(refine aa ?_ λ_=>?_)|(refine bq ?_ ?_)|split|(dsimp only;done)|dsimp only)
theorem bN(v:Value):NS P (asIntOf v):=by unfold asIntOf;split<;>trivial
theorem cK(v:Value):NS P (asInt v):=aa (bN v) λ_=>trivial
theorem bI(v:Value):NS P (asBool v):=by unfold asBool;split<;>trivial
theorem cM(v:Value):NS P (asAgg v):=by unfold asAgg;split<;>trivial
theorem cn(v:Value):NS P (asAddr v):=by unfold asAddr;split<;>first|trivial|exact bn _
theorem cR(v:Value):NS P (Instr.sureAddr v):=by unfold Instr.sureAddr;split<;>trivial
theorem cG(t:TypeId)(cs:Array Value)(off:Nat):NS P (part t cs off):=by
 unfold part;refine aa (cq t) λb=>?_;cases b with
 | true=>exact aa (br t) λ_=>trivial
 | false=>
  simp only[Bool.false_eq_true,if_false];split<;>trivial
theorem EN{α β:Type}{f:α->Sem β}(h:∀x,NS P (f x)):∀(l:List α),NS P (l.mapM f)
 | []=>trivial
 | x::r=>by rw[List.mapM_cons];exact aa (h x) λy=>aa (EN h r) λ_=>trivial
theorem OG{f:α->Sem β}(h:∀x,NS P (f x))(l:Array α):NS P (l.mapM f):=by rw[Array.mapM_eq_mapM_toList,map_eq_pure_bind];exact aa (EN h _) λ_=>trivial
theorem o7{α σ:Type}{f:α->σ->Sem (ForInStep σ)}(h:∀x s,NS P (f x s)):∀(l:List α) (s:σ),NS P (forIn l s f)
 | [],s=>by rw[List.forIn_nil];trivial
 | x::r,s=>by
  rw[List.forIn_cons];refine aa (h x s) λy=>?_;cases y with
  | done b=>trivial
  | yield b=>exact o7 h r b
theorem xY{σ:Type}{f:α->σ->Sem (ForInStep σ)}(h:∀x s,NS P (f x s))(l:Array α)(s:σ):NS P (forIn l s f):=by rw[<-Array.forIn_toList];exact o7 h _ s
theorem bT(b:Nat):NS P (askRoom b):=by unfold askRoom;split;exact⟨rfl,trivial⟩;trivial
theorem qd(t:TypeId)(v:Value):NS P (Instr.loadAt t v):=aa (cR v) λa=>bD t a
theorem lz(t:TypeId)(v x:Value):NS P (Instr.storeAt t v x):=aa (cR v) λa=>bm t a x
theorem zY(t:TypeId):NS P (Instr.alloc t true (.tuple #[])):=aa (aV t) λz=>aa (bF t z) λ_=>trivial
theorem Sx(t:TypeId)(v:Value):NS P (Instr.box t v):=aa (bF t v) λ_=>trivial
theorem Kd(t:TypeId)(ps:Array (Nat×Value)):NS P (Instr.build t ps):=by
 unfold Instr.build;try dsimp only
 repeat' (first|exact trivial|exact aV _|exact az _|exact aW _|exact br _|exact cq _|exact dP _ _|exact bF _ _|exact bD _ _|exact bd _ _|exact aO _ _ _|exact bm _ _ _|exact bn _|exact cm _ _ _ _|exact bN _|exact cK _|exact bI _|exact cM _|exact cn _|exact cR _|exact cG _ _ _|exact bT _|exact bG _|(refine OG (λ_=>?_) _)|(refine aa ?_ λ_=>?_)|(refine bq ?_ ?_)|split|(dsimp only;done)|dsimp only)
theorem vJ(t:TypeId)(n:Nat)(ps:Array (Nat×Value)):NS P (Instr.buildSlice t n ps):=by
 unfold Instr.buildSlice;try dsimp only
 repeat' (first|exact trivial|exact aV _|exact az _|exact aW _|exact br _|exact cq _|exact dP _ _|exact bF _ _|exact bD _ _|exact bd _ _|exact aO _ _ _|exact bm _ _ _|exact bn _|exact cm _ _ _ _|exact bN _|exact cK _|exact bI _|exact cM _|exact cn _|exact cR _|exact cG _ _ _|exact bT _|exact bG _|(refine aa ?_ λ_=>?_)|(refine bq ?_ ?_)|split|(dsimp only;done)|dsimp only)
theorem Kc(t:TypeId)(x:Value)(k:Nat):NS P (Instr.field t x k):=by
 unfold Instr.field;try dsimp only
 repeat' (first|exact trivial|exact aV _|exact az _|exact aW _|exact br _|exact cq _|exact dP _ _|exact bF _ _|exact bD _ _|exact bd _ _|exact aO _ _ _|exact bm _ _ _|exact bn _|exact cm _ _ _ _|exact bN _|exact cK _|exact bI _|exact cM _|exact cn _|exact cR _|exact cG _ _ _|exact bT _|exact bG _|(refine aa ?_ λ_=>?_)|(refine bq ?_ ?_)|split|(dsimp only;done)|dsimp only)
theorem tP(x:Value)(i:Nat):NS P (Instr.extract x i):=by
 unfold Instr.extract;try dsimp only
 repeat' (first|exact trivial|exact aV _|exact az _|exact aW _|exact br _|exact cq _|exact dP _ _|exact bF _ _|exact bD _ _|exact bd _ _|exact aO _ _ _|exact bm _ _ _|exact bn _|exact cm _ _ _ _|exact bN _|exact cK _|exact bI _|exact cM _|exact cn _|exact cR _|exact cG _ _ _|exact bT _|exact bG _|(refine aa ?_ λ_=>?_)|(refine bq ?_ ?_)|split|(dsimp only;done)|dsimp only)
theorem xX(t:TypeId)(l c:Value):NS P (Instr.makeSlice t l c):=by
 unfold Instr.makeSlice;try dsimp only
 repeat' (first|exact trivial|exact aV _|exact az _|exact aW _|exact br _|exact cq _|exact dP _ _|exact bF _ _|exact bD _ _|exact bd _ _|exact aO _ _ _|exact bm _ _ _|exact bn _|exact cm _ _ _ _|exact bN _|exact cK _|exact bI _|exact cM _|exact cn _|exact cR _|exact cG _ _ _|exact bT _|exact bG _|(refine aa ?_ λ_=>?_)|(refine bq ?_ ?_)|split|(dsimp only;done)|dsimp only)
theorem zV(t:TypeId)(x i:Value):NS P (Instr.index t x i):=by
 unfold Instr.index;try dsimp only
 repeat' (first|exact trivial|exact aV _|exact az _|exact aW _|exact br _|exact cq _|exact dP _ _|exact bF _ _|exact bD _ _|exact bd _ _|exact aO _ _ _|exact bm _ _ _|exact bn _|exact cm _ _ _ _|exact bN _|exact cK _|exact bI _|exact cM _|exact cn _|exact cR _|exact cG _ _ _|exact bT _|exact bG _|(refine aa ?_ λ_=>?_)|(refine bq ?_ ?_)|split|(dsimp only;done)|dsimp only)
theorem tJ(t:TypeId)(x i:Value):NS P (Instr.indexAt t x i):=by
 unfold Instr.indexAt;try dsimp only
 repeat' (first|exact trivial|exact aV _|exact az _|exact aW _|exact br _|exact cq _|exact dP _ _|exact bF _ _|exact bD _ _|exact bd _ _|exact aO _ _ _|exact bm _ _ _|exact bn _|exact cm _ _ _ _|exact bN _|exact cK _|exact bI _|exact cM _|exact cn _|exact cR _|exact cG _ _ _|exact bT _|exact bG _|(refine aa ?_ λ_=>?_)|(refine bq ?_ ?_)|split|(dsimp only;done)|dsimp only)
theorem Ke(x:Value)(y:Nat)(c:BoundsCode):NS P (Instr.sliceBound x y c):=by
 unfold Instr.sliceBound;try dsimp only
 repeat' (first|exact trivial|exact aV _|exact az _|exact aW _|exact br _|exact cq _|exact dP _ _|exact bF _ _|exact bD _ _|exact bd _ _|exact aO _ _ _|exact bm _ _ _|exact bn _|exact cm _ _ _ _|exact bN _|exact cK _|exact bI _|exact cM _|exact cn _|exact cR _|exact cG _ _ _|exact bT _|exact bG _|(refine aa ?_ λ_=>?_)|(refine bq ?_ ?_)|split|(dsimp only;done)|dsimp only)
theorem tU(b:Bool)(l c:Nat)(lo hi mx:Option Value):NS P (Instr.sliceBounds b l c lo hi mx):=by
 unfold Instr.sliceBounds;try dsimp only
 repeat' (first|exact trivial|exact aV _|exact az _|exact aW _|exact br _|exact cq _|exact dP _ _|exact bF _ _|exact bD _ _|exact bd _ _|exact aO _ _ _|exact bm _ _ _|exact bn _|exact cm _ _ _ _|exact bN _|exact cK _|exact bI _|exact cM _|exact cn _|exact cR _|exact cG _ _ _|exact bT _|exact bG _|exact Ke _ _ _|(refine aa ?_ λ_=>?_)|(refine bq ?_ ?_)|split|(dsimp only;done)|dsimp only)
theorem Ka(t:TypeId)(x:Value)(lo hi mx:Option Value):NS P (Instr.slice t x lo hi mx):=by
 unfold Instr.slice;try dsimp only
 repeat' (first|exact trivial|exact aV _|exact az _|exact aW _|exact br _|exact cq _|exact dP _ _|exact bF _ _|exact bD _ _|exact bd _ _|exact aO _ _ _|exact bm _ _ _|exact bn _|exact cm _ _ _ _|exact bN _|exact cK _|exact bI _|exact cM _|exact cn _|exact cR _|exact cG _ _ _|exact bT _|exact bG _|exact tU _ _ _ _ _ _|(refine aa ?_ λ_=>?_)|(refine bq ?_ ?_)|split|(dsimp only;done)|dsimp only)
theorem oA(t:TypeId)(x:Value)(lo hi mx:Option Value):NS P (Instr.sliceAt t x lo hi mx):=by
 unfold Instr.sliceAt;try dsimp only
 repeat' (first|exact trivial|exact aV _|exact az _|exact aW _|exact br _|exact cq _|exact dP _ _|exact bF _ _|exact bD _ _|exact bd _ _|exact aO _ _ _|exact bm _ _ _|exact bn _|exact cm _ _ _ _|exact bN _|exact cK _|exact bI _|exact cM _|exact cn _|exact cR _|exact cG _ _ _|exact bT _|exact bG _|exact tU _ _ _ _ _ _|exact Ka _ _ _ _ _|(refine aa ?_ λ_=>?_)|(refine bq ?_ ?_)|split|(dsimp only;done)|dsimp only)
theorem zQ(o:UnOp)(x:Value):NS P (Op.unary o x):=by
 unfold Op.unary Op.intArith Op.intBits;try dsimp only
 repeat' (first|exact trivial|exact aV _|exact az _|exact aW _|exact br _|exact cq _|exact dP _ _|exact bF _ _|exact bD _ _|exact bd _ _|exact aO _ _ _|exact bm _ _ _|exact bn _|exact cm _ _ _ _|exact bN _|exact cK _|exact bI _|exact cM _|exact cn _|exact cR _|exact cG _ _ _|exact bT _|exact bG _|(refine aa ?_ λ_=>?_)|(refine bq ?_ ?_)|split|(dsimp only;done)|dsimp only)
theorem Kb(a:Array TypeId)(t:TypeId)(x:Array Value):NS P (Builtin.len_ a t x):=by
 unfold Builtin.len_;try dsimp only
 repeat' (first|exact trivial|exact aV _|exact az _|exact aW _|exact br _|exact cq _|exact dP _ _|exact bF _ _|exact bD _ _|exact bd _ _|exact aO _ _ _|exact bm _ _ _|exact bn _|exact cm _ _ _ _|exact bN _|exact cK _|exact bI _|exact cM _|exact cn _|exact cR _|exact cG _ _ _|exact bT _|exact bG _|exact dY _|(refine aa ?_ λ_=>?_)|(refine bq ?_ ?_)|split|(dsimp only;done)|dsimp only)
theorem Sw(a:Array TypeId)(t:TypeId)(x:Array Value):NS P (Builtin.cap_ a t x):=by
 unfold Builtin.cap_;try dsimp only
 repeat' (first|exact trivial|exact aV _|exact az _|exact aW _|exact br _|exact cq _|exact dP _ _|exact bF _ _|exact bD _ _|exact bd _ _|exact aO _ _ _|exact bm _ _ _|exact bn _|exact cm _ _ _ _|exact bN _|exact cK _|exact bI _|exact cM _|exact cn _|exact cR _|exact cG _ _ _|exact bT _|exact bG _|exact dY _|exact gg _ _ _|(refine aa ?_ λ_=>?_)|(refine bq ?_ ?_)|split|(dsimp only;done)|dsimp only)
theorem oL{f:α->Sem β}(h:∀a,rZ (f a)):rZ (m.bind f):=λP w r w' e=>by
 have e:(m >>= f).run P w=.ok r w':=e;rw[Xz] at e;cases hm:m.run P w with
 | ok x w1=>rw[hm] at e;exact h x P w1 r w' e
 | halt x w1=>rw[hm] at e;cases e
theorem uZ(u:Unsupported):rZ (unsupported u:Sem α):=λ_ _ _ _ e=>by cases e
theorem zU(x:Value):NS P (Builtin.lenOf x):=by
 unfold Builtin.lenOf;try dsimp only
 repeat' (first|exact trivial|exact aV _|exact az _|exact aW _|exact br _|exact cq _|exact dP _ _|exact bF _ _|exact bD _ _|exact bd _ _|exact aO _ _ _|exact bm _ _ _|exact bn _|exact cm _ _ _ _|exact bN _|exact cK _|exact bI _|exact cM _|exact cn _|exact cR _|exact cG _ _ _|exact bT _|exact bG _|exact dY _|exact gg _ _ _|(refine aa ?_ λ_=>?_)|(refine bq ?_ ?_)|split|(dsimp only;done)|dsimp only)
theorem nU(s n:Nat)(x:Value):NS P (Builtin.firstCells s n x):=by
 unfold Builtin.firstCells;try dsimp only
 repeat' (first|exact trivial|exact aV _|exact az _|exact aW _|exact br _|exact cq _|exact dP _ _|exact bF _ _|exact bD _ _|exact bd _ _|exact aO _ _ _|exact bm _ _ _|exact bn _|exact cm _ _ _ _|exact bN _|exact cK _|exact bI _|exact cM _|exact cn _|exact cR _|exact cG _ _ _|exact bT _|exact bG _|exact dY _|exact gg _ _ _|(refine aa ?_ λ_=>?_)|(refine bq ?_ ?_)|split|(dsimp only;done)|dsimp only)
theorem zS(size Yg n:Nat)(base:Option Addr)(x:Value){f:Bool->Sem α}(h:∀b,rZ (f b))(k:∀b,NS P (f b)):NS P (Builtin.mayShare size Yg n base x >>= f):=by
 unfold Builtin.mayShare;cases base with
 | none=>
  cases x with
  | slice b l c=>
   cases b with
   | none=>exact k _
   | some b=>exact λs=>oL h
  | _=>exact k _
 | some a=>exact λs=>oL h
theorem OF:NS P (mark .noRoom):=⟨rfl,trivial⟩
set_option maxHeartbeats 2000000 in
theorem wz(a:Array TypeId)(t:TypeId)(x:Array Value):NS P (Builtin.append_ a t x):=by
 unfold Builtin.append_;try dsimp only
 repeat' (first|exact OF|exact uZ _|exact oL (λ_=>uZ _)|exact trivial|exact aV _|exact az _|exact aW _|exact br _|exact cq _|exact dP _ _|exact bF _ _|exact bD _ _|exact bd _ _|exact aO _ _ _|exact bm _ _ _|exact bn _|exact cm _ _ _ _|exact bN _|exact cK _|exact bI _|exact cM _|exact cn _|exact cR _|exact cG _ _ _|exact bT _|exact bG _|exact dY _|exact gg _ _ _|exact zU _|exact nU _ _ _|(refine zS _ _ _ _ _ (λb=>?_) (λb=>?_))|(refine aa ?_ λ_=>?_)|(refine bq ?_ ?_)|split|(dsimp only;done)|dsimp only)
theorem OH(a:Array TypeId)(t:TypeId)(x:Array Value):NS P (Builtin.copy_ a t x):=by
 unfold Builtin.copy_;try dsimp only
 repeat' (first|exact trivial|exact aV _|exact az _|exact aW _|exact br _|exact cq _|exact dP _ _|exact bF _ _|exact bD _ _|exact bd _ _|exact aO _ _ _|exact bm _ _ _|exact bn _|exact cm _ _ _ _|exact bN _|exact cK _|exact bI _|exact cM _|exact cn _|exact cR _|exact cG _ _ _|exact bT _|exact bG _|exact dY _|exact gg _ _ _|exact zU _|exact nU _ _ _|(refine aa ?_ λ_=>?_)|(refine bq ?_ ?_)|split|(dsimp only;done)|dsimp only)
theorem U8(a:Array TypeId)(t:TypeId)(x:Array Value):NS P (Builtin.clear_ a t x):=by
 unfold Builtin.clear_;try dsimp only
 repeat' (first|exact trivial|exact aV _|exact az _|exact aW _|exact br _|exact cq _|exact dP _ _|exact bF _ _|exact bD _ _|exact bd _ _|exact aO _ _ _|exact bm _ _ _|exact bn _|exact cm _ _ _ _|exact bN _|exact cK _|exact bI _|exact cM _|exact cn _|exact cR _|exact cG _ _ _|exact bT _|exact bG _|exact dY _|exact gg _ _ _|(refine aa ?_ λ_=>?_)|(refine bq ?_ ?_)|split|(dsimp only;done)|dsimp only)
end
end
end Go.Proofs.YtmdpdknpapjchaaGreatDoor
