/- A symbolic executor with lists, 3. -/
import Derived.Test.YtgigkennhdolpaaGreatDoorM0
import Derived.Conc.Own
import Derived.Conc.Listed
namespace Go.Proofs.YtgigkennhdolpaaGreatDoor
open Go.RowKit
structure DR where
 ob:Option Prop
 v:SV
 w:Option (Nat×SB)
 fr:Bool
def nB:Option Prop->Prop
 | none=>True
 | some p=>p
def DR.Ob(r:DR):Prop:=nB r.ob
def dv(v:SV):Option DR:=some ⟨none,v,none,false⟩
def Za(p:Prop)(v:SV):Option DR:=some ⟨some p,v,none,false⟩
def Vd(n:Int):Prop:=-9223372036854775808<=n∧n<=9223372036854775807
theorem Vd.wrap{n:Int}(h:Vd n):IntKind.i64.wrap n=n:=by
 have e1:((2:Int)^IntKind.i64.bits)=18446744073709551616:=by decide
 have e2:((2:Int)^(IntKind.i64.bits-1))=9223372036854775808:=by decide
 unfold Vd at h;unfold IntKind.wrap;rw[e1,e2];simp only[IntKind.signed,Bool.true_and,Uq];split<;>omega
def IT:Int->Bool
 | .ofNat m=>Nat.ble m 9223372036854775807
 | .negSucc m=>Nat.ble m 9223372036854775807
theorem q9{n:Int}(h:IT n=true):Vd n:=by
 cases n with
 | ofNat m=>have:=L' h;unfold Vd;simp only[Int.ofNat_eq_natCast];omega
 | negSucc m=>have:=L' h;unfold Vd;omega
def SV.int?:SV->Option (IntKind×Int)
 | .il k n=>some (k,n)
 | .v (.int k n)=>some (k,n)
 | _=>none
theorem SV.int?_den{x:SV}{k:IntKind}{n:Int}{ρ:Names}{y:Value}(h:x.int? = some (k,n))(hd:den ρ x y):y=.int k n:=by unfold SV.int? at h;split at h;obtain⟨rfl,rfl⟩:=P' (Oi h);exact hd;obtain⟨rfl,rfl⟩:=P' (Oi h);exact hd;cases h
def SV.bool?:SV->Option Bool
 | .bl b=>some b
 | .v (.bool b)=>some b
 | _=>none
theorem SV.bool?_den{x:SV}{b:Bool}{ρ:Names}{y:Value}(h:x.bool? = some b)(hd:den ρ x y):y=.bool b:=by unfold SV.bool? at h;split at h;obtain rfl:=Oi h;exact hd;obtain rfl:=Oi h;exact hd;cases h
def OC:IntKind->Bool
 | .i64=>true
 | _=>false
theorem sE{k:IntKind}(h:OC k=true):k=.i64:=by cases k<;>first|rfl|cases h
def lA:IntKind->IntKind->Bool
 | .i8,.i8=>true|.i16,.i16=>true|.i32,.i32=>true|.i64,.i64=>true
 | .u8,.u8=>true|.u16,.u16=>true|.u32,.u32=>true|.u64,.u64=>true
 | _,_=>false
theorem fV{k k':IntKind}(h:lA k k'=true):k=k':=by cases k<;>cases k'<;>first|rfl|cases h
def arI(k:IntKind)(lit:Bool)(p:Option Prop)(n:Int):Option DR:=
 match OC k,lit,p with
 | true,true,none=>match IT n with|true=>dv (.il .i64 n)|false=>none
 | true,_,none=>Za (Vd n) (.v (.int .i64 n))
 | true,_,some p=>Za (p∧Vd n) (.v (.int .i64 n))
 | false,true,none=>dv (.il k (k.wrap n))
 | false,_,none=>dv (.v (.int k (k.wrap n)))
 | false,_,some p=>Za p (.v (.int k (k.wrap n)))
def raI(k:IntKind)(lit:Bool)(p:Option Prop)(n:Int):Option DR:=
 match lit,p with
 | true,none=>dv (.il k n)
 | _,none=>dv (.v (.int k n))
 | _,some p=>Za p (.v (.int k n))
def cmI(lit:Bool)(b:Bool):Option DR:=match lit with|true=>dv (.bl b)|false=>dv (.v (.bool b))
def eh(op:BinOp)(k:IntKind)(a b:Int):Int:=
 match op with
 | .and=>k.wrap (BitVec.ofInt k.bits a &&& BitVec.ofInt k.bits b).toNat
 | .or=>k.wrap (BitVec.ofInt k.bits a ||| BitVec.ofInt k.bits b).toNat
 | .xor=>k.wrap (BitVec.ofInt k.bits a ^^^ BitVec.ofInt k.bits b).toNat
 | _=>k.wrap (BitVec.ofInt k.bits a &&& ~~~(BitVec.ofInt k.bits b)).toNat
def nzO(l:Bool)(b:Int):Option Prop:=match l with|true=>(match b with|.ofNat 0=>some (¬b=0)|_=>none)|false=>some (¬b=0)
def geO(l:Bool)(b:Int):Option Prop:=match l with|true=>(match b with|.ofNat _=>none|_=>some (0<=b))|false=>some (0<=b)
theorem Ib{l:Bool}{b:Int}(h:nB (nzO l b)):¬b=0:=by unfold nzO at h;split at h;split at h;exact h;rename_i hn;intro e;subst e;exact hn rfl;exact h
theorem IY{l:Bool}{b:Int}(h:nB (geO l b)):0<=b:=by unfold geO at h;split at h;split at h;exact Int.natCast_nonneg _;exact h;exact h
def xe(op:BinOp)(k:IntKind)(la lb:Bool)(a b:Int):Option DR:=
 match op with
 | .add=>arI k (la&&lb) none (a+b)
 | .sub=>arI k (la&&lb) none (a-b)
 | .mul=>arI k (la&&lb) none (a*b)
 | .lss=>cmI (la&&lb) (decide (a<b))
 | .leq=>cmI (la&&lb) (decide (a<=b))
 | .gtr=>cmI (la&&lb) (decide (b<a))
 | .geq=>cmI (la&&lb) (decide (b<=a))
 | .eql=>cmI (la&&lb) (decide (a=b))
 | .neq=>cmI (la&&lb) (decide (¬a=b))
 | .quo=>arI k (la&&lb) (nzO lb b) (a.tdiv b)
 | .rem=>raI k (la&&lb) (nzO lb b) (a.tmod b)
 | .and=>raI k false none (eh .and k a b)
 | .or=>raI k false none (eh .or k a b)
 | .xor=>raI k false none (eh .xor k a b)
 | .andNot=>raI k false none (eh .andNot k a b)
 | _=>none
def Cp(op:BinOp)(k:IntKind)(la lb:Bool)(a b:Int):Option DR:=
 match op with
 | .shl=>raI k (la&&lb) (geO lb b) (k.wrap (a*2^(min b.toNat k.bits)))
 | .shr=>raI k (la&&lb) (geO lb b) (a.fdiv (2^(min b.toNat k.bits)))
 | _=>none
theorem SS{v:SV}{r:DR}(h:dv v=some r):r.w=none∧r.fr=false∧r.v=v:=by obtain rfl:=Oi h;exact⟨rfl,rfl,rfl⟩
def Yields(r:DR)(ρ:Names)(y:Value):Prop:=r.w=none∧r.fr=false∧den ρ r.v y
theorem pP{k:IntKind}{lit:Bool}{p:Option Prop}{n:Int}{r:DR}{ρ:Names}(h:arI k lit p n=some r)(ho:r.Ob):nB p∧Yields r ρ (.int k (k.wrap n)):=by unfold arI at h;split at h;rename_i hk;obtain rfl:=sE hk;split at h;rename_i hb;obtain rfl:=Oi h;exact⟨trivial,rfl,rfl,by show _=_;rw[(q9 hb).wrap]⟩;cases h;rename_i hk _;obtain rfl:=sE hk;obtain rfl:=Oi h;exact⟨trivial,rfl,rfl,by show _=_;rw[Vd.wrap ho]⟩;rename_i hk;obtain rfl:=sE hk;obtain rfl:=Oi h;exact⟨ho.1,rfl,rfl,by show _=_;rw[Vd.wrap ho.2]⟩;obtain rfl:=Oi h;exact⟨trivial,rfl,rfl,rfl⟩;obtain rfl:=Oi h;exact⟨trivial,rfl,rfl,rfl⟩;obtain rfl:=Oi h;exact⟨ho,rfl,rfl,rfl⟩
theorem ny{k:IntKind}{lit:Bool}{p:Option Prop}{n:Int}{r:DR}{ρ:Names}(h:raI k lit p n=some r)(ho:r.Ob):nB p∧Yields r ρ (.int k n):=by unfold raI at h;split at h;obtain rfl:=Oi h;exact⟨trivial,rfl,rfl,rfl⟩;obtain rfl:=Oi h;exact⟨trivial,rfl,rfl,rfl⟩;obtain rfl:=Oi h;exact⟨ho,rfl,rfl,rfl⟩
theorem pN{lit:Bool}{c:Bool}{r:DR}{ρ:Names}(h:cmI lit c=some r):Yields r ρ (.bool c):=by unfold cmI at h;split at h<;>obtain rfl:=Oi h<;>exact⟨rfl,rfl,rfl⟩
theorem bG{P:Program}{w:World}{op:BinOp}{t:TypeId}{k:IntKind}{a b:Int}(h1:op≠.shl)(h2:op≠.shr) :
  (binOp op t (.int k a) (.int k b)).run P w=(match op with
   | .add|.sub|.mul=>Op.intArith op k a b
   | .quo|.rem=>Op.intDiv op k a b
   | .and|.or|.xor|.andNot=>Op.intBits op k a b
   | _=>Op.intCmp op a b).run P w:=by
 cases op<;>first|exact Up rfl h1|exact Up rfl h2|simp[binOp]
theorem vm{P:Program}{w:World}{op:BinOp}{k:IntKind}{la lb:Bool}{a b:Int}{t:TypeId}{r:DR}{ρ:Names}(h:xe op k la lb a b=some r)(ho:r.Ob) :
  ∃y,Yields r ρ y∧(binOp op t (.int k a) (.int k b)).run P w=.ok y w:=by
 unfold xe at h;split at h;exact⟨_,(pP h ho).2,by rw[bG (by decide) (by decide)];rfl⟩;exact⟨_,(pP h ho).2,by rw[bG (by decide) (by decide)];rfl⟩;exact⟨_,(pP h ho).2,by rw[bG (by decide) (by decide)];rfl⟩;exact⟨_,pN h,by rw[bG (by decide) (by decide)];rfl⟩;exact⟨_,pN h,by rw[bG (by decide) (by decide)];rfl⟩;exact⟨_,pN h,by rw[bG (by decide) (by decide)];rfl⟩;exact⟨_,pN h,by rw[bG (by decide) (by decide)];rfl⟩;exact⟨_,pN h,by rw[bG (by decide) (by decide)];rfl⟩;exact⟨_,pN h,by rw[bG (by decide) (by decide),decide_not];rfl⟩;obtain⟨h1,h2⟩:=pP (ρ:=ρ) h ho;have h1:=Ib h1;exact⟨_,h2,by rw[bG (by decide) (by decide)];simp only[Op.intDiv,Uv h1,UI]⟩;obtain⟨h1,h2⟩:=ny (ρ:=ρ) h ho;have h1:=Ib h1;exact⟨_,h2,by rw[bG (by decide) (by decide)];simp only[Op.intDiv,Uv h1,UI]⟩;exact⟨_,(ny h ho).2,by rw[bG (by decide) (by decide)];rfl⟩;exact⟨_,(ny h ho).2,by rw[bG (by decide) (by decide)];rfl⟩;exact⟨_,(ny h ho).2,by rw[bG (by decide) (by decide)];rfl⟩;exact⟨_,(ny h ho).2,by rw[bG (by decide) (by decide)];rfl⟩;cases h
def xd(op:BinOp)(k:IntKind)(la lb:Bool)(a b:Int):Option DR:=
 match la&&lb,op with
 | false,.add=>dv (.v (.int k (k.wrap (a+b))))
 | false,.sub=>dv (.v (.int k (k.wrap (a-b))))
 | false,.mul=>dv (.v (.int k (k.wrap (a*b))))
 | _,_=>xe op k la lb a b
theorem vu{r:DR}{ρ:Names}{v:Value}(h:dv (.v v)=some r):Yields r ρ v:=by obtain rfl:=Oi h;exact⟨rfl,rfl,rfl⟩
theorem BG{P:Program}{w:World}{op:BinOp}{k:IntKind}{la lb:Bool}{a b:Int}{t:TypeId}{r:DR}{ρ:Names}(h:xd op k la lb a b=some r)(ho:r.Ob) :
  ∃y,Yields r ρ y∧(binOp op t (.int k a) (.int k b)).run P w=.ok y w:=by
 unfold xd at h;split at h;exact⟨_,vu h,by rw[bG (by decide) (by decide)];rfl⟩;exact⟨_,vu h,by rw[bG (by decide) (by decide)];rfl⟩;exact⟨_,vu h,by rw[bG (by decide) (by decide)];rfl⟩;exact vm h ho
theorem xN{P:Program}{w:World}{op:BinOp}{k k':IntKind}{la lb:Bool}{a b:Int}{t:TypeId}{r:DR}{ρ:Names}(h:Cp op k la lb a b=some r)(ho:r.Ob) :
  ∃y,Yields r ρ y∧(binOp op t (.int k a) (.int k' b)).run P w=.ok y w:=by
 unfold Cp at h;split at h;obtain⟨h1,h2⟩:=ny (ρ:=ρ) h ho;have h1:¬b<0:=(by have:=IY h1;omega);exact⟨_,h2,by simp only[binOp,Op.shift,Uv h1,UI]⟩;obtain⟨h1,h2⟩:=ny (ρ:=ρ) h ho;have h1:¬b<0:=(by have:=IY h1;omega);exact⟨_,h2,by simp only[binOp,Op.shift,Uv h1,UI]⟩;cases h
def HV(b:Bool)(x y:SV):Option SV:=
 match x,y with
 | .bl true,y=>match y.bool? with|some c=>some (.v (.bool (b||c)))|none=>none
 | x,.bl false=>match x.bool? with|some c=>some (.v (.bool (b&&c)))|none=>none
 | x,y=>match x.bool?,y.bool? with
  | some c,some d=>some (.v (.bool (if b then c else d)))
  | _,_=>match x.int?,y.int? with
   | some (k,m),some (k',n)=>match lA k k' with|true=>some (.v (.int k (if b then m else n)))|false=>none
   | _,_=>none
theorem HU{b:Bool}{x y z:SV}{ρ:Names}{u v:Value}(h:HV b x y=some z)(hx:b=true->den ρ x u)(hy:b=false->den ρ y v):den ρ z (if b then u else v):=by unfold HV at h;split at h;split at h;rename_i c hc;obtain rfl:=Oi h;cases b;rw[SV.bool?_den hc (hy rfl)];rfl;have:u=.bool true:=hx rfl;rw[this];rfl;cases h;split at h;rename_i c hc;obtain rfl:=Oi h;cases b;have:v=.bool false:=hy rfl;rw[this];rfl;rw[SV.bool?_den hc (hx rfl)];rfl;cases h;split at h;rename_i c d hc hd;obtain rfl:=Oi h;cases b;rw[SV.bool?_den hd (hy rfl)];rfl;rw[SV.bool?_den hc (hx rfl)];rfl;split at h;rename_i k m k' n hm hn;split at h;rename_i hk;obtain rfl:=fV hk;obtain rfl:=Oi h;cases b;rw[SV.int?_den hn (hy rfl)];rfl;rw[SV.int?_den hm (hx rfl)];rfl;cases h;cases h
def SV.iv:SV->Int
 | .il _ n=>n
 | .v (.int _ n)=>n
 | _=>0
def SV.bv:SV->Bool
 | .bl b=>b
 | .v (.bool b)=>b
 | _=>false
def SV.str:SV->ByteArray
 | .v (.string q)=>q
 | _=>⟨#[]⟩
def SV.txt:SV->Bool
 | .v (.string _)=>true
 | _=>false
def SV.rn:SV->Nat
 | .rs _ n _=>n
 | _=>0
def SV.rf:SV->Nat->List SV
 | .rs _ _ h=>h
 | _=>λ_=>[]
def SV.al:SV->List SV
 | .agg l=>l
 | _=>[]
def VL:List SV->SV
 | x::_=>x
 | []=>.e
def Vx:List SV->List SV
 | _::r=>r
 | []=>[]
mutual
def jn(c:Bool):SV->SV->SV
 | .v (.int k b),x=>.v (.int k (bif c then b else x.iv))
 | .il k b,x=>.v (.int k (bif c then b else x.iv))
 | .v (.bool b),x=>.v (.bool (bif c then b else x.bv))
 | .v (.string b),x=>.v (.string (bif c then b else x.str))
 | .bl b,x=>.v (.bool (bif c then b else x.bv))
 | .rs sz n f,x=>.rs sz (bif c then n else x.rn) (λi=>ZF c (f i) (x.rf i))
 | .agg l,x=>.agg (ZF c l x.al)
 | y,x=>bif c then y else x
def ZF(c:Bool):List SV->List SV->List SV
 | [],_=>[]
 | y::r,x=>jn c y (VL x)::ZF c r (Vx x)
end
mutual
def alike:SV->SV->Prop
 | .v (.int k _),x=>match x.int? with|some (k',_)=>k'=k|none=>False
 | .il k _,x=>match x.int? with|some (k',_)=>k'=k|none=>False
 | .v (.bool _),x=>match x.bool? with|some _=>True|none=>False
 | .v (.string _),x=>match x.txt with|true=>True|false=>False
 | .bl _,x=>match x.bool? with|some _=>True|none=>False
 | .rs sz _ f,x=>match x with
  | .rs U9 n' f'=>U9=sz∧∀i,i<n'->eV (f i) (f' i)
  | .e=>True
  | .v (.slice none 0 0)=>True
  | _=>False
 | .agg l,x=>match x with|.agg m=>eV l m|_=>False
 | _,_=>True
def eV:List SV->List SV->Prop
 | [],x=>match x with|[]=>True|_::_=>False
 | y::r,x=>match x with|[]=>False|x::s=>alike y x∧eV r s
end
mutual
theorem L9{ρ:Names} : ∀(y x:SV) (v:Value),den ρ y v->den ρ (jn true y x) v
 | .v z,x,v,h=>by cases z<;>exact h
 | .il k b,x,v,h=>h
 | .bl b,x,v,h=>h
 | .rs sz n f,x,v,⟨a,cap,e1,e2,e3⟩=>⟨a,cap,e1,e2,λi hi=>let ⟨b,o,u,k1,k2,k3⟩:=e3 i hi;⟨b,o,u,k1,fw (f i) _ u k2,k3⟩⟩
 | .p _ _,x,v,h=>h
 | .s _ _ _ _ _,x,v,h=>h
 | .f _ _ _,x,v,h=>h
 | .agg l,x,v,⟨u,e1,e2⟩=>⟨u,fw l _ u e1,e2⟩
 | .tup _,x,v,h=>h
 | .e,x,v,h=>h
 | .rp _ _,x,v,h=>h
 | .g _ _ _ _ _,x,v,h=>h
 | .gp _ _ _ _ _,x,v,h=>h
 | .kd _ _ _ _ _,x,v,h=>h
 | .kq _ _ _ _ _,x,v,h=>h
 | .m _,x,v,h=>h
theorem fw{ρ:Names} : ∀(y x:List SV) (v:List Value),aj ρ y v->aj ρ (ZF true y x) v
 | [],x,v,h=>h
 | y::r,x,v,⟨a,b,e1,e2,e3⟩=>⟨a,b,e1,L9 y _ a e2,fw r _ b e3⟩
end
mutual
theorem IJ{ρ:Names} : ∀(y x:SV) (v:Value),alike y x->den ρ x v->den ρ (jn false y x) v
 | .v z,x,v,ha,h=>by
  cases z
  case int k b=>
   simp only[alike] at ha;split at ha;rename_i k' n hn;subst ha;have:x.iv=n:=(by unfold SV.int? at hn;split at hn<;>first|(obtain⟨rfl,rfl⟩:=P' (Oi hn);rfl)|cases hn);rw[SV.int?_den hn h];show _=Value.int _ x.iv;rw[this];exact ha.elim
  case bool b=>
   simp only[alike] at ha;split at ha;rename_i n hn;have:x.bv=n:=(by unfold SV.bool? at hn;split at hn<;>first|(obtain rfl:=Oi hn;rfl)|cases hn);rw[SV.bool?_den hn h];show _=Value.bool x.bv;rw[this];exact ha.elim
  case string b=>
   simp only[alike] at ha;split at ha;rename_i hn;unfold SV.txt at hn;split at hn;exact h;cases hn;exact ha.elim
  all_goals exact h
 | .il k b,x,v,ha,h=>by simp only[alike] at ha;split at ha;rename_i k' n hn;subst ha;have:x.iv=n:=(by unfold SV.int? at hn;split at hn<;>first|(obtain⟨rfl,rfl⟩:=P' (Oi hn);rfl)|cases hn);rw[SV.int?_den hn h];show _=Value.int _ x.iv;rw[this];exact ha.elim
 | .bl b,x,v,ha,h=>by simp only[alike] at ha;split at ha;rename_i n hn;have:x.bv=n:=(by unfold SV.bool? at hn;split at hn<;>first|(obtain rfl:=Oi hn;rfl)|cases hn);rw[SV.bool?_den hn h];show _=Value.bool x.bv;rw[this];exact ha.elim
 | .rs sz n f,x,v,ha,h=>by simp only[alike] at ha;split at ha;rename_i U9 n' f';obtain⟨rfl,ha⟩:=ha;obtain⟨a,cap,e1,e2,e3⟩:=h;exact⟨a,cap,e1,e2,λi hi=>let ⟨b,o,u,k1,k2,k3⟩:=e3 i hi;⟨b,o,u,k1,cI (f i) _ u (ha i hi) k2,k3⟩⟩;obtain⟨a,rfl⟩:=h;exact⟨a,0,rfl,I' _,λi hi=>Up hi (F' i)⟩;obtain rfl:v=_:=h;exact⟨none,0,rfl,I' _,λi hi=>Up hi (F' i)⟩;exact ha.elim
 | .p _ _,x,v,_,h=>h
 | .s _ _ _ _ _,x,v,_,h=>h
 | .f _ _ _,x,v,_,h=>h
 | .agg l,x,v,ha,h=>by simp only[alike] at ha;split at ha;obtain⟨u,e1,e2⟩:=h;exact⟨u,cI l _ u ha e1,e2⟩;exact ha.elim
 | .tup _,x,v,_,h=>h
 | .e,x,v,_,h=>h
 | .rp _ _,x,v,_,h=>h
 | .g _ _ _ _ _,x,v,_,h=>h
 | .gp _ _ _ _ _,x,v,_,h=>h
 | .kd _ _ _ _ _,x,v,_,h=>h
 | .kq _ _ _ _ _,x,v,_,h=>h
 | .m _,x,v,_,h=>h
theorem cI{ρ:Names} : ∀(y x:List SV) (v:List Value),eV y x->aj ρ x v->aj ρ (ZF false y x) v
 | [],x,v,ha,h=>by
  cases x with
  | nil=>exact h
  | cons _ _=>exact ha.elim
 | y::r,x,v,ha,h=>by
  cases x with
  | nil=>exact ha.elim
  | cons x s=>
   obtain⟨a,b,e1,e2,e3⟩:=h;exact⟨a,b,e1,IJ y x a ha.1 e2,cI r s b ha.2 e3⟩
end
def aH:List Prop->Prop
 | []=>True
 | [p]=>p
 | p::r=>p∧aH r
theorem cX{p:Prop}{r:List Prop}(h:aH (p::r)):p∧aH r:=by
 cases r with
 | nil=>exact⟨h,trivial⟩
 | cons q r=>exact h
theorem bV:∀{l m:List Prop},aH (l++m)->aH l∧aH m
 | [],m,h=>⟨trivial,h⟩
 | p::r,m,h=>by
  obtain⟨h1,h2⟩:=cX (r:=r++m) h;obtain⟨h3,h4⟩:=bV h2;refine⟨?_,h4⟩;cases r with
  | nil=>exact h1
  | cons q r=>exact⟨h1,h3⟩
def aI:Option (List Prop)->Prop
 | some l=>aH l
 | none=>False
def isInt(k:IntKind)(x:SV):Option (List Prop):=match x.int? with|none=>none|some (k',_)=>match lA k' k with|true=>some []|false=>none
def isBool(x:SV):Option (List Prop):=match x.bool? with|some _=>some []|none=>none
mutual
def tK:SV->SV->Option (List Prop)
 | .v (.int k _),x=>isInt k x
 | .il k _,x=>isInt k x
 | .v (.bool _),x=>isBool x
 | .v (.string _),x=>match x.txt with|true=>some []|false=>none
 | .bl _,x=>isBool x
 | .rs sz _ f,x=>match x with
  | .rs U9 n' f'=>match Nat.beq U9 sz with|true=>some [∀i,i<n'->aI (fg (f i) (f' i))]|false=>none
  | .e=>some []
  | .v (.slice none 0 0)=>some []
  | _=>none
 | .agg l,x=>match x with|.agg m=>fg l m|_=>none
 | _,_=>some []
def fg:List SV->List SV->Option (List Prop)
 | [],x=>match x with|[]=>some []|_::_=>none
 | y::r,x=>match x with
  | []=>none
  | x::s=>match tK y x,fg r s with|some a,some b=>some (a++b)|_,_=>none
end
theorem yI{k:IntKind}{x:SV}{l:List Prop}(h:isInt k x=some l):match x.int? with|some (k',_)=>k'=k|none=>False:=by
 unfold isInt at h;cases hx:x.int? with
 | none=>rw[hx] at h;cases h
 | some p=>
  rw[hx] at h;simp only at h ⊢;split at h;rename_i hk;exact fV hk;cases h
theorem uT{x:SV}{l:List Prop}(h:isBool x=some l):match x.bool? with|some _=>True|none=>False:=by
 unfold isBool at h;cases hx:x.bool? with
 | none=>rw[hx] at h;cases h
 | some p=>trivial
mutual
theorem FJ:∀(y x:SV) (l:List Prop),tK y x=some l->aH l->alike y x
 | .v z,x,l,h,hc=>by
  cases z
  case int k b=>exact yI h
  case bool b=>exact uT h
  case string b=>
   simp only[tK] at h;simp only[alike];split at h
   ·first|trivial|(rename_i hn;rw[hn];trivial)
   cases h
  all_goals exact trivial
 | .il k b,x,l,h,hc=>yI h
 | .bl b,x,l,h,hc=>uT h
 | .rs sz n f,x,l,h,hc=>by
  simp only[tK] at h;split at h
  ·rename_i U9 n' f';split at h
   ·rename_i hb;have hb:=Nb hb;obtain rfl:=Oi h;refine⟨hb,λi hi=>?_⟩;have:=hc i hi;cases hq:fg (f i) (f' i) with
    | none=>rw[hq] at this;exact this.elim
    | some q=>rw[hq] at this;exact fK _ _ q hq this
   cases h
  trivial;trivial;cases h
 | .agg m,x,l,h,hc=>by simp only[tK] at h;split at h;exact fK _ _ l h hc;cases h
 | .p _ _,x,_,_,h=>trivial
 | .s _ _ _ _ _,x,_,_,h=>trivial
 | .f _ _ _,x,_,_,h=>trivial
 | .tup _,x,_,_,h=>trivial
 | .e,x,_,_,h=>trivial
 | .rp _ _,x,_,_,h=>trivial
 | .g _ _ _ _ _,x,_,_,h=>trivial
 | .gp _ _ _ _ _,x,_,_,h=>trivial
 | .kd _ _ _ _ _,x,_,_,h=>trivial
 | .kq _ _ _ _ _,x,_,_,h=>trivial
 | .m _,x,_,_,h=>trivial
theorem fK:∀(y x:List SV) (l:List Prop),fg y x=some l->aH l->eV y x
 | [],x,l,h,hc=>by
  cases x with
  | nil=>trivial
  | cons _ _=>cases h
 | y::r,x,l,h,hc=>by
  cases x with
  | nil=>cases h
  | cons x s=>
   simp only[fg] at h;split at h;rename_i a b h1 h2;obtain rfl:=Oi h;obtain⟨c1,c2⟩:=bV hc;exact⟨FJ y x a h1 c1,fK r s b h2 c2⟩;cases h
end
end Go.Proofs.YtgigkennhdolpaaGreatDoor
namespace Go.Proofs.YtgigkennhdolpaaGreatDoor
open Go.Conc
def qG{α:Type}(m:Sem α):Prop:=∀(P:Program) (w:World),∀r w',m.run P w≠.ok r w'
def Obj.plain:Obj->Prop
 | .view ..=>False
 | _=>True
def NS(P:Program){α:Type} : Sem α->Prop
 | .pure _=>True
 | .load _ _ k=>∀v,NS P (k v)
 | .store _ _ _ k=>NS P k
 | .new o k=>Obj.plain o∧∀r,NS P (k r)
 | .shape _ k=>∀s,qG (k s)
 | .freeze _ _ k=>qG k
 | .frozen _ k=>∀b,qG (k b)
 | .getObj _ k=>∀o,NS P (k o)
 | .setObj _ o k=>Obj.plain o∧NS P k
 | .choose _ k=>∀n,NS P (k n)
 | .sys _ k=>∀r,qG (k r)
 | .program k=>NS P (k P)
 | .mark m k=>m=.noRoom∧NS P k
 | .halt _=>True
theorem qG.bind{α β:Type}{m:Sem α}(h:qG m)(f:α->Sem β):qG (m.bind f):=λP w r w' e=>by
 have:∀{m:Sem α} {w:World} {r:β} {w':World},(m.bind f).run P w=.ok r w'->∃x w1,m.run P w=.ok x w1:=by
  intro m
  induction m with
  | pure a=>exact λ_=>⟨_,_,rfl⟩
  | load md a k ih=>
   intro w r w' e;simp only[Sem.bind,Sem.run] at e ⊢;split at e;exact ih _ e;split at e;exact ih _ e;cases e
  | store md a v k ih=>
   intro w r w' e;cases v with
   | agg vs=>simp only[Sem.bind,Sem.run] at e;cases e
   | tuple vs=>simp only[Sem.bind,Sem.run] at e;cases e
   | _=>
    simp only[Sem.bind,Sem.run] at e ⊢;split at e;split at e;cases e;rename_i hf;rw[Uv hf];exact ih e;split at e;exact ih e;cases e
  | new o k ih=>intro w r w' e;exact ih _ e
  | shape r k ih=>intro w r w' e;exact ih _ e
  | freeze a n k ih=>intro w r w' e;exact ih e
  | frozen a k ih=>intro w r w' e;exact ih _ e
  | getObj r k ih=>
   intro w r w' e;simp only[Sem.bind,Sem.run] at e ⊢;split at e<;>first|cases e|skip
   exact ih _ e
  | setObj r o k ih=>
   intro w r w' e;simp only[Sem.bind,Sem.run] at e ⊢;split at e<;>first|cases e|skip
   exact ih e
  | choose q k ih=>
   intro w r w' e;simp only[Sem.bind,Sem.run] at e ⊢;split at e;rename_i hq;rw[Uw hq];exact ih _ e;rename_i hq;rw[Uv hq];exact ih _ e
  | sys c k ih=>intro w r w' e;exact ih _ e
  | program k ih=>intro w r w' e;exact ih _ e
  | mark m k ih=>intro w r w' e;exact ih e
  | halt h=>intro w r w' e;cases e
 obtain⟨x,w1,e1⟩:=this e;exact h P w x w1 e1
theorem NS.bind{P:Program}{α β:Type} : ∀{m:Sem α} {f:α->Sem β},NS P m->(∀a,NS P (f a))->NS P (m.bind f):=by
 intro m
 induction m with
 | pure a=>exact λ_ h=>h a
 | load md a k ih=>exact λh hf v=>ih v (h v) hf
 | store md a v k ih=>exact λh hf=>ih h hf
 | new o k ih=>exact λh hf=>⟨h.1,λr=>ih r (h.2 r) hf⟩
 | shape r k ih=>exact λh _ s=>(h s).bind _
 | freeze a n k ih=>exact λh _=>qG.bind h _
 | frozen a k ih=>exact λh _ b=>(h b).bind _
 | getObj r k ih=>exact λh hf o=>ih o (h o) hf
 | setObj r o k ih=>exact λh hf=>⟨h.1,ih h.2 hf⟩
 | choose q k ih=>exact λh hf n=>ih n (h n) hf
 | sys c k ih=>exact λh _ r=>(h r).bind _
 | program k ih=>exact λh hf=>ih P h hf
 | mark m k ih=>exact λh hf=>⟨h.1,ih h.2 hf⟩
 | halt h=>exact λ_ _=>trivial
def Td(o O:Option Obj):Prop:=∃cs t fr hi,o=some (.cells cs t fr)∧O=some (.cells cs t (0,hi))∧cs.size<=hi
structure View (S R:Nat->Prop) (w W:World):Prop where
 tape:w.tape=W.tape
 drawn:w.drawn=W.drawn
 os:w.os=W.os
 output:w.output=W.output
 size:w.heap.size=W.heap.size
 same:∀b:Nat,¬S b->¬R b->w.heap[b]? = W.heap[b]?
 lent:∀b:Nat,¬S b->R b->Td (w.heap[b]?) (W.heap[b]?)
 pois:∀b:Nat,S b->W.heap[b]? = some (.cells #[] 0 (0,0))
 plain:∀(b:Nat) (o:Obj),W.heap[b]? = some o->Obj.plain o
def EvS(S R:Nat->Prop)(n:Nat)(e:Event):Prop:=match e.loc with
 | .cell a=>¬S a.block∧a.block<n∧(e.write=true->¬R a.block)
 | .obj r=>¬S r∧r<n∧¬R r
 | .mark m=>m=.noRoom
 | _=>False
structure er (S R:Nat->Prop) (w w':World):Prop where
 size:w.heap.size<=w'.heap.size
 same:∀b:Nat,S b∨R b->w'.heap[b]? = w.heap[b]?
 os:w'.os=w.os
 tape:w'.tape=w.tape
 output:w'.output=w.output
theorem er.refl(S R:Nat->Prop)(w:World):er S R w w:=⟨I' _,λ_ _=>rfl,rfl,rfl,rfl⟩
theorem er.trans{S R:Nat->Prop}{a b c:World}(h:er S R a b)(k:er S R b c):er S R a c:=⟨Nat.le_trans h.size k.size,λx hx=>(k.same x hx).trans (h.same x hx),k.os.trans h.os,k.tape.trans h.tape,k.output.trans h.output⟩
section
variable {P:Program}{S R:Nat->Prop}{w W:World}
theorem View.far(h:View S R w W){a:Addr}{at_:Bool} : ∃x,W.farLoad P a at_=.error x:=by unfold World.farLoad;split;rename_i b u hb;exact(h.plain _ _ hb).elim;exact⟨_,rfl⟩
theorem View.TY(h:View S R w W){a:Addr}{v:Value}{at_:Bool} : ∃x,W.farStore P a v at_=.error x:=by unfold World.farStore;split;rename_i b u hb;exact(h.plain _ _ hb).elim;exact⟨_,rfl⟩
theorem View.cell(h:View S R w W){a:Addr}{v:Value}(hc:W.cell? a=some v):¬S a.block∧w.cell? a=some v:=by
 have hs:¬S a.block:=λhs=>by have:=h.pois _ hs;unfold World.cell? at hc;rw[this] at hc;simp at hc
 refine⟨hs,?_⟩;by_cases hr:R a.block;obtain⟨cs,t,fr,hi,h1,h2,h3⟩:=h.lent _ hs hr;unfold World.cell? at hc ⊢;rw[h2] at hc;rw[h1];exact hc;unfold World.cell? at hc ⊢;rw[h.same _ hs hr];exact hc
theorem View.thaw(h:View S R w W){a:Addr}{v:Value}(hc:W.cell? a=some v)(hf:¬W.frozen? a=true):¬R a.block:=λhr=>by
 obtain⟨hs,_⟩:=h.cell hc;obtain⟨cs,t,fr,hi,h1,h2,h3⟩:=h.lent _ hs hr;unfold World.cell? at hc;unfold World.frozen? at hf;rw[h2] at hc hf;simp only at hc hf;split at hc;cases hc;have:=(E'.1 hc).1;refine hf ?_;have h4:a.off<hi:=by omega
 simp[h4]
theorem View.frozen(h:View S R w W){a:Addr}(hs:¬S a.block)(hr:¬R a.block):w.frozen? a=W.frozen? a:=by unfold World.frozen?;rw[h.same _ hs hr]
theorem View.mod(h:View S R w W){b0:Nat}(hs:¬S b0)(hr:¬R b0){f:Obj->Obj}(hf:∀o,Obj.plain o->Obj.plain (f o)):View S R {w with heap:=w.heap.modify b0 f} {W with heap:=W.heap.modify b0 f}:=by
 refine⟨h.tape,h.drawn,h.os,h.output,by simpa using h.size,λb hb We=>?_,λb hb We=>?_,λb hb=>?_,λb o ho=>?_⟩;simp only[Array.getElem?_modify];rw[h.same b hb We];have:b0≠b:=λe=>hr (e▸We);simp only[Array.getElem?_modify,Uv this];exact h.lent b hb We;have:b0≠b:=λe=>hs (e▸hb);simp only[Array.getElem?_modify,Uv this];exact h.pois b hb;simp only[Array.getElem?_modify] at ho;split at ho
 ·cases e:W.heap[b]? with
  | none=>rw[e] at ho;cases ho
  | some o'=>
   rw[e] at ho;obtain rfl:=Oi ho;exact hf _ (h.plain b o' e)
 exact h.plain b o ho
theorem er.mod{b0:Nat}(hs:¬S b0)(hr:¬R b0){f:Obj->Obj} : er S R w {w with heap:=w.heap.modify b0 f}:=by refine⟨by simp,λb hb=>?_,rfl,rfl,rfl⟩;have:b0≠b:=λe=>hb.elim (λx=>hs (e▸x)) λx=>hr (e▸x);simp only[Array.getElem?_modify,Uv this]
theorem er.set{a:Addr}{v:Value}(hs:¬S a.block)(hr:¬R a.block):er S R w (w.setCell a v):=er.mod hs hr
theorem View.low(h:View S R w W){b:Nat}(hb:S b∨R b):b<W.heap.size:=by by_cases hs:S b;exact(E'.1 (h.pois b hs)).1;rcases hb with hb|hb;exact(hs hb).elim;obtain⟨cs,t,fr,hi,h1,h2,h3⟩:=h.lent b hs hb;exact(E'.1 h2).1
theorem er.push(h:View S R w W){o:Obj} : er S R w {w with heap:=w.heap.push o}:=by
 refine⟨by simp,λb hb=>?_,rfl,rfl,rfl⟩;have h2:b<W.heap.size:=h.low hb;have:b≠w.heap.size:=by rw[h.size];omega
 simp only[Array.getElem?_push,Uv this]
theorem er.Lg{r:Nat}{o:Obj}(hs:¬S r)(hr:¬R r):er S R w {w with heap:=w.heap.setIfInBounds r o}:=by refine⟨by simp,λb hb=>?_,rfl,rfl,rfl⟩;have:r≠b:=λe=>hb.elim (λx=>hs (e▸x)) λx=>hr (e▸x);simp only[Array.getElem?_setIfInBounds,Uv this]
theorem zJ{w:World}{a:Addr}{v:Value}(h:w.cell? a=some v):a.block<w.heap.size:=by
 unfold World.cell? at h;cases hb:w.heap[a.block]? with
 | none=>rw[hb] at h;cases h
 | some o=>exact(E'.1 hb).1
theorem View.set(h:View S R w W){a:Addr}{v:Value}(hs:¬S a.block)(hr:¬R a.block):View S R (w.setCell a v) (W.setCell a v):=by refine h.mod hs hr λo ho=>?_;cases o<;>exact ho
theorem View.push(h:View S R w W){o:Obj}(ho:Obj.plain o):View S R {w with heap:=w.heap.push o} {W with heap:=W.heap.push o}:=by refine⟨h.tape,h.drawn,h.os,h.output,by simpa using h.size,λb hb We=>?_,λb hb We=>?_,λb hb=>?_,λb o' Ws=>?_⟩;simp only[Array.getElem?_push,h.size];rw[h.same b hb We];have h2:b<W.heap.size:=h.low (.inr We);simp only[Array.getElem?_push,h.size,Uv (Nat.ne_of_lt h2)];exact h.lent b hb We;have h1:=h.pois b hb;have:b<W.heap.size:=(E'.1 h1).1;simp only[Array.getElem?_push,Uv (Nat.ne_of_lt this)];exact h1;simp only[Array.getElem?_push] at Ws;split at Ws;obtain rfl:=Oi Ws;exact ho;exact h.plain b o' Ws
theorem View.Lg(h:View S R w W){r:Nat}{o:Obj}(hs:¬S r)(hr:¬R r)(ho:Obj.plain o):View S R {w with heap:=w.heap.setIfInBounds r o} {W with heap:=W.heap.setIfInBounds r o}:=by refine⟨h.tape,h.drawn,h.os,h.output,by simpa using h.size,λb hb We=>?_,λb hb We=>?_,λb hb=>?_,λb o' Ws=>?_⟩;simp only[Array.getElem?_setIfInBounds,h.size];rw[h.same b hb We];have:r≠b:=λe=>hr (e▸We);simp only[Array.getElem?_setIfInBounds,Uv this];exact h.lent b hb We;have:r≠b:=λe=>hs (e▸hb);simp only[Array.getElem?_setIfInBounds,Uv this];exact h.pois b hb;simp only[Array.getElem?_setIfInBounds] at Ws;split at Ws;split at Ws;obtain rfl:=Oi Ws;exact ho;cases Ws;exact h.plain b o' Ws
theorem View.draw(h:View S R w W):View S R {w with drawn:=w.drawn+1} {W with drawn:=W.drawn+1}:=
 ⟨h.tape,by show w.drawn+1=W.drawn+1;rw[h.drawn],h.os,h.output,h.size,h.same,h.lent,h.pois,h.plain⟩
end
theorem b7{P:Program}{S R:Nat->Prop}{α:Type} : ∀{m:Sem α} {w W W':World} {r:α} (es:Array Event),NS P m->View S R w W->m.run P W=.ok r W'->
  ∃w',m.run P w=.ok r w'∧View S R w' W'∧er S R w w'∧∀e∈m.events P w es,e∈es∨EvS S R w'.heap.size e:=by
 intro m
 induction m with
 | pure a=>
  intro w W W' r es _ h e;obtain⟨rfl,rfl⟩:=(by simpa[Sem.run] using e);exact⟨w,rfl,h,er.refl _ _ _,λe he=>.inl he⟩
 | load md a k ih=>
  intro w W W' r es hn h e;simp only[Sem.run] at e;split at e
  ·rename_i v hc;obtain⟨h1,h2⟩:=h.cell hc;obtain⟨w',k1,k2,kk,k3⟩:=ih v (es.push ⟨.cell a,false,md==.atomic⟩) (hn v) h e;refine⟨w',by simp only[Sem.run,h2];exact k1,k2,kk,λe he=>?_⟩;have he:e∈(k v).events P w (es.push ⟨.cell a,false,md==.atomic⟩):=by
    have:(Sem.load md a k).events P w es=(k v).events P w (es.push ⟨.cell a,false,md==.atomic⟩):=by simp only[Sem.events,Sem.runT,h2]
    rwa [this] at he
   rcases k3 e he with q|q;rcases Array.mem_push.1 q with q|rfl;exact .inl q;exact .inr ⟨h1,Nat.lt_of_lt_of_le (zJ h2) kk.size,λx=>by cases x⟩;exact .inr q
  obtain⟨x,hx⟩:=h.far (P:=P) (a:=a) (at_:=md==.atomic);rw[hx] at e;cases e
 | store md a v k ih=>
  intro w W W' r es hn h e;cases v with
  | agg vs=>simp only[Sem.run] at e;cases e
  | tuple vs=>simp only[Sem.run] at e;cases e
  | _=>
   simp only[Sem.run] at e;split at e;rename_i v0 hc;obtain⟨h1,h2⟩:=h.cell hc;split at e;cases e;rename_i hf;have hr:=h.thaw hc hf;have hf':¬w.frozen? a=true:=(by rw[h.frozen h1 hr];exact hf);obtain⟨w',k1,k2,kk,k3⟩:=ih (es.push ⟨.cell a,true,md==.atomic⟩) hn (h.set h1 hr) e;refine⟨w',by simp only[Sem.run,h2];rw[Uv hf'];exact k1,k2,(er.set h1 hr).trans kk,λe he=>?_⟩;simp only[Sem.events,Sem.runT,h2] at he;rw[Uv hf'] at he;rcases k3 e he with q|q;rcases Array.mem_push.1 q with q|rfl;exact .inl q;exact .inr ⟨h1,Nat.lt_of_lt_of_le (zJ h2) ((er.set h1 hr).trans kk).size,λ_=>hr⟩;exact .inr q;obtain⟨x,hx⟩:=h.TY (P:=P) (a:=a) (at_:=md==.atomic);rw[hx] at e;cases e
 | new o k ih=>
  intro w W W' r es hn h e;simp only[Sem.run] at e;obtain⟨w',k1,k2,kk,k3⟩:=ih W.heap.size es (hn.2 _) (h.push hn.1) e;refine⟨w',by simp only[Sem.run];rw[h.size];exact k1,k2,(er.push h).trans kk,λe he=>?_⟩;simp only[Sem.events,Sem.runT] at he;rw[h.size] at he;exact k3 e he
 | shape r k ih=>exact λes hn h e=>Up e (hn _ _ _ _ _)
 | freeze a n k ih=>exact λes hn h e=>Up e (hn _ _ _ _)
 | frozen a k ih=>exact λes hn h e=>Up e (hn _ _ _ _ _)
 | getObj rr k ih=>
  intro w W W' r es hn h e;simp only[Sem.run] at e;split at e;cases e;rename_i o V0 ho;have hs:¬S rr:=λhs=>(by have:=h.pois _ hs;rw[ho] at this;exact V0 _ _ _ (Oi this));have hr:¬R rr:=λhr=>(by obtain⟨cs,t,fr,hi,q1,q2,q3⟩:=h.lent _ hs hr;rw[ho] at q2;exact V0 _ _ _ (Oi q2));have Ws:w.heap[rr]? = some o:=(h.same _ hs hr).trans ho;obtain⟨w',k1,k2,kk,k3⟩:=ih o (es.push ⟨.obj rr,false,o.isChan⟩) (hn o) h e;have e1:(Sem.getObj rr k).run P w=(k o).run P w:=(by simp only[Sem.run,Ws]);have e2:(Sem.getObj rr k).events P w es=(k o).events P w (es.push ⟨.obj rr,false,o.isChan⟩):=(by simp only[Sem.events,Sem.runT,Ws]);refine⟨w',e1.trans k1,k2,kk,λe he=>?_⟩;rw[e2] at he;rcases k3 e he with q|q;rcases Array.mem_push.1 q with q|rfl;exact .inl q;exact .inr ⟨hs,Nat.lt_of_lt_of_le (E'.1 Ws).1 kk.size,hr⟩;exact .inr q;cases e
 | setObj rr o k ih=>
  intro w W W' r es hn h e;simp only[Sem.run] at e;split at e;cases e;rename_i o0 V0 ho;have hs:¬S rr:=λhs=>(by have:=h.pois _ hs;rw[ho] at this;exact V0 _ _ _ (Oi this));have hr:¬R rr:=λhr=>(by obtain⟨cs,t,fr,hi,q1,q2,q3⟩:=h.lent _ hs hr;rw[ho] at q2;exact V0 _ _ _ (Oi q2));have Ws:w.heap[rr]? = some o0:=(h.same _ hs hr).trans ho;obtain⟨w',k1,k2,kk,k3⟩:=ih (es.push ⟨.obj rr,true,o.isChan⟩) hn.2 (h.Lg hs hr hn.1) e;have e1:(Sem.setObj rr o k).run P w=k.run P {w with heap:=w.heap.setIfInBounds rr o}:=(by simp only[Sem.run,Ws]);have e2:(Sem.setObj rr o k).events P w es=k.events P {w with heap:=w.heap.setIfInBounds rr o} (es.push ⟨.obj rr,true,o.isChan⟩):=(by simp only[Sem.events,Sem.runT,Ws]);refine⟨w',e1.trans k1,k2,(er.Lg hs hr).trans kk,λe he=>?_⟩;rw[e2] at he;rcases k3 e he with q|q;rcases Array.mem_push.1 q with q|rfl;exact .inl q;exact .inr ⟨hs,Nat.lt_of_lt_of_le (E'.1 Ws).1 ((er.Lg hs hr).trans kk).size,hr⟩;exact .inr q;cases e
 | choose q k ih=>
  intro w W W' r es hn h e;simp only[Sem.run] at e;by_cases hq:q.forced=true;rw[Uw hq] at e;obtain⟨w',k1,k2,kk,k3⟩:=ih 0 es (hn 0) h e;refine⟨w',by simp only[Sem.run];rw[Uw hq];exact k1,k2,kk,λe he=>?_⟩;simp only[Sem.events,Sem.runT] at he;rw[Uw hq] at he;exact k3 e he;rw[Uv hq,<-h.tape,<-h.drawn] at e;obtain⟨w',k1,k2,kk,k3⟩:=ih _ es (hn _) (by have:=h.draw;rwa [<-h.drawn,<-h.tape] at this) e;refine⟨w',by simp only[Sem.run];rw[Uv hq];exact k1,k2,⟨kk.size,kk.same,kk.os,kk.tape,kk.output⟩,λe he=>?_⟩;simp only[Sem.events,Sem.runT] at he;rw[Uv hq] at he;exact k3 e he
 | sys c k ih=>exact λes hn h e=>Up e (hn _ _ _ _ _)
 | program k ih=>
  intro w W W' r es hn h e;obtain⟨w',k1,k2,kk,k3⟩:=ih P es hn h e;exact⟨w',k1,k2,kk,k3⟩
 | mark mm k ih=>
  intro w W W' r es hn h e;obtain⟨w',k1,k2,kk,k3⟩:=ih (es.push ⟨.mark mm,false,true⟩) hn.2 h e;refine⟨w',k1,k2,kk,λe he=>?_⟩;rcases k3 e he with q|q;rcases Array.mem_push.1 q with q|rfl;exact .inl q;exact .inr hn.1;exact .inr q
 | halt hh=>
  intro w W W' r es _ _ e;cases e
end Go.Proofs.YtgigkennhdolpaaGreatDoor
