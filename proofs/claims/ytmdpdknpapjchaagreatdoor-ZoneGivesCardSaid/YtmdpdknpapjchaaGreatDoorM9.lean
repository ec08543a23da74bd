/- Company, 5: comparisons. -/
import Derived.Test.YtmdpdknpapjchaaGreatDoorM8
set_option linter.all false
namespace Go.Proofs.YtmdpdknpapjchaaGreatDoor
open Go.Conc
variable {α:Type}{t:TypeId}{kv v:Value}
section
variable {P:Program}
def AF:Value->Prop
 | .int _ _=>True
 | .bool _=>True
 | .string _=>True
 | _=>False
def rC:Value->Prop
 | .int _ _=>True
 | .bool _=>True
 | .string _=>True
 | .agg cs=>∀c∈cs,AF c
 | _=>False
theorem AF.a(h:AF v):rC v:=by cases v<;>first|trivial|exact h.elim
theorem iT{cs:Array Value}{off:Nat}(hc:∀c∈cs,AF c){f:Value->Sem α}(k:∀r,rC r->NS P (f r)):NS P (part t cs off >>= f):=by
 unfold part;rw[bind_assoc];refine aa (cq t) λb=>?_;cases b with
 | true=>
  simp only[if_true,bind_assoc,pure_bind];refine aa (br t) λn=>k _ λc h=>?_;rw[Array.mem_iff_getElem?] at h;obtain⟨i,hi⟩:=h;rw[Array.getElem?_extract] at hi;split at hi;exact hc c (Array.mem_of_getElem? hi);cases hi
 | false=>
  simp only[Bool.false_eq_true,if_false];cases h:cs[off]? with
  | none=>trivial
  | some v=>exact k v (hc v (Array.mem_of_getElem? h)).a
theorem jx:∀(d:Nat) (t:TypeId) (x y:Value),rC x->rC y->NS P (Op.equalIn d t x y)
 | 0,_,_,_,_,_=>trivial
 | d+1,t,x,y,hx,hy=>by
  unfold Op.equalIn;refine aa (az t) λdsc=>?_;cases x with
  | int k n=>cases y<;>first|exact hy.elim|(cases dsc<;>first|trivial|(refine bq ?_ ?_<;>trivial))
  | bool b=>cases y<;>first|exact hy.elim|(cases dsc<;>trivial)
  | string b=>cases y<;>first|exact hy.elim|(cases dsc<;>trivial)
  | agg xs=>
   cases y with
   | agg ys=>
    cases dsc with
    | struct fields=>
     refine g9 ?_;refine bq (by trivial) ?_;refine aa (xY (λf s=>?_) _ _) λ⟨s,u⟩=>?_;refine bq (iT hx λp hp=>iT hy λq hq=>aa (jx d _ p q hp hq) λb=>bq (by trivial) (by trivial)) (by trivial);cases s<;>trivial
    | array len elem=>
     refine aa (br elem) λn=>?_;simp only[Std.Legacy.Range.forIn_eq_forIn_range'];refine aa (o7 (λi s=>?_) _ _) λ⟨s,u⟩=>?_;exact iT hx λp hp=>iT hy λq hq=>aa (jx d _ p q hp hq) λb=>bq (by trivial) (by trivial);cases s<;>trivial
    | _=>trivial
   | _=>first|exact hy.elim|(cases dsc<;>trivial)
  | _=>exact hx.elim
theorem o8(d:Nat)(t:TypeId)(x:Value):NS P (Op.equalIn d t x (.pointer none)):=by
 cases d with
 | zero=>trivial
 | succ d=>
  unfold Op.equalIn;refine aa (az t) λdsc=>?_;cases dsc<;>cases x<;>first|trivial|(rename_i a;cases a<;>trivial)|(rename_i a _ _;cases a<;>trivial)
theorem J9{d:TypeDesc}{f:TypeDesc->Sem α}(hu:P.underlying t=some d)(h:NS P (f d)):NS P (underlying t >>= f):=by have e:(underlying t >>= f)=Sem.program λp=>(match p.underlying t with|some d=>pure d|none=>stuck "no such type") >>= f:=rfl;rw[e];show NS P ((match P.underlying t with|some d=>pure d|none=>stuck "no such type") >>= f);rw[hu];exact h
theorem OC{i:TypeInfo}{f:Nat->Sem α}(hi:P.info? t=some i)(h:NS P (f i.size)):NS P (sizeOf t >>= f):=by have e:(sizeOf t >>= f)=Sem.program λp=>((match p.info? t with|some i=>pure i|none=>stuck "no such type") >>= λi=>pure i.size) >>= f:=rfl;rw[e];show NS P (((match P.info? t with|some i=>pure i|none=>stuck "no such type") >>= λi=>pure i.size) >>= f);rw[hi];exact h
theorem tO{s:TypeId}{k:Nat}{fs:Array Field}{f:Field}{i:TypeInfo}(hu:P.underlying s=some (.struct fs))(hf:fs[k]? = some f)(hi:P.info? f.type=some i)(hz:i.size≠0):NS P (Instr.fieldAt s v k):=by unfold Instr.fieldAt;refine J9 hu ?_;simp only[hf];refine aa (cR v) λa=>aa ?_ λ_=>trivial;unfold fieldPlace;refine OC hi ?_;rw[Xk hz];trivial
theorem rq(t:TypeId):NS P (Instr.makeMap t none):=⟨trivial,λ_=>trivial⟩
theorem ya(d:Nat)(t:TypeId)(k:IntKind)(n:Int)(y:Value):NS P (Op.equalIn d t (.int k n) y):=by
 cases d with
 | zero=>trivial
 | succ d=>
  unfold Op.equalIn;refine aa (az t) λdsc=>?_;split<;>first|trivial|(refine bq ?_ ?_<;>trivial)|(rename_i h _;cases h)|skip
def qj:Value->Prop
 | .int _ _=>True
 | .string _=>True
 | _=>False
theorem xZ(d:Nat)(t:TypeId)(s:ByteArray)(y:Value):NS P (Op.equalIn d t (.string s) y):=by
 cases d with
 | zero=>trivial
 | succ d=>
  unfold Op.equalIn;refine aa (az t) λdsc=>?_;split<;>first|trivial|(refine bq ?_ ?_<;>trivial)|(rename_i h _;cases h)|skip
theorem x8(d:Nat)(t:TypeId)(h:qj v)(y:Value):NS P (Op.equalIn d t v y):=by
 cases v with
 | int k n=>exact ya d t k n y
 | string s=>exact xZ d t s y
 | _=>exact h.elim
theorem fq(e:Bool):∀(d:Nat) (t:TypeId) (v:Value),NS P (Instr.checkKey e d t v)
 | 0,_,_=>trivial
 | d+1,t,v=>by unfold Instr.checkKey;refine aa (az t) λdsc=>?_;split;refine aa (aW _) λi=>?_;have hs:∀t,NS P (typeStr t):=λt=>aa (aW t) λi=>bq (by trivial) (by trivial);refine bq ?_ (fq e d _ _);refine bq (aa (bn _) λ_=>aa (hs _) λ_=>aa (bn _) λ_=>fq e d _ _) (aa (hs _) λ_=>aa (bn _) λ_=>fq e d _ _);simp only[Std.Legacy.Range.forIn_eq_forIn_range'];refine aa (o7 (λi s=>?_) _ _) λ_=>(by trivial);exact aa (br _) λn=>aa (cG _ _ _) λp=>aa (fq e d _ p) λ_=>(by trivial);refine aa (xY (λf s=>?_) _ _) λ_=>(by trivial);exact bq (aa (cG _ _ _) λp=>aa (fq e d _ p) λ_=>by trivial) (by trivial);all_goals trivial
theorem nV(t:TypeId){v:Value}(h:qj v):∀(l:List MapEntry) (i:Nat),NS P (Instr.findAsking t v l i)
 | [],_=>trivial
 | e::r,i=>aa (x8 _ _ h _) λb=>bq (by trivial) (nV t h r (i+1))
theorem tM(t:TypeId)(h:qj v)(l:List MapEntry):NS P (Instr.findKey t v l):=by unfold Instr.findKey;refine aa (az t) λd=>?_;split;trivial;exact nV _ h _ _
theorem CN(t:TypeId)(x:Value)(hk:qj kv)(ok:Bool):NS P (Instr.lookup t x kv ok):=by
 unfold Instr.lookup;refine aa (az t) λd=>?_;split
 ·have rest:∀es key elem,NS P (do
    Instr.checkKey (Array.isEmpty es) 10000 key kv
    let (v,okk) <-match <-Instr.findKey key kv (Array.toList es) with
     | some (_,v)=>pure (v,true)
     | none=>pure (<-zeroValue elem,false)
    pure (if ok then .tuple #[v,.bool okk] else v):Sem Value):=λes key elem=>by
   refine aa (fq _ _ _ _) λ_=>aa (tM _ hk _) λr=>?_;cases ok<;>cases r<;>first|trivial|exact aa (aV _) λ_=>trivial
  cases x with
  | map r=>
   cases r with
   | none=>exact rest #[] _ _
   | some r=>
    refine aa (dY r) λo=>?_;cases o<;>first|exact rest _ _ _|trivial
  | _=>trivial
 trivial
theorem vI(t:TypeId)(m:Value)(hk:qj kv)(v:Value):NS P (Instr.mapUpdate t m kv v):=by
 unfold Instr.mapUpdate;refine aa (az t) λd=>?_;split
 ·cases m with
  | map r=>
   cases r with
   | none=>exact bn _
   | some r=>
    refine aa (dY r) λo=>?_;split;refine aa (fq _ _ _ _) λ_=>aa (tM _ hk _) λr=>?_;split;refine aa ?_ λ_=>gg _ _ _;unfold Instr.keyThatStays;exact bq (by trivial) (aa (bG _) λ_=>by trivial);exact gg _ _ _;trivial
  | _=>trivial
 trivial
theorem xW(d:Nat)(t:TypeId)(a:Option Addr)(l c:Nat):NS P (Op.equalIn d t (.slice a l c) (.slice none 0 0)):=by
 cases d with
 | zero=>trivial
 | succ d=>
  unfold Op.equalIn;refine aa (az t) λdsc=>?_;cases dsc<;>cases a<;>trivial
theorem OE(x y:Value):NS P (Builtin.max2 x y):=by unfold Builtin.max2;repeat' (first|trivial|exact aa (bG _) λ_=>trivial|exact aa (ZC _ _ _) λ_=>aa (bI _) λ_=>trivial|exact aa (aa (ZC _ _ _) λ_=>bI _) λ_=>trivial|split)
theorem OD(x y:Value):NS P (Builtin.min2 x y):=by unfold Builtin.min2;repeat' (first|trivial|exact aa (bG _) λ_=>trivial|exact aa (ZC _ _ _) λ_=>aa (bI _) λ_=>trivial|exact aa (aa (ZC _ _ _) λ_=>bI _) λ_=>trivial|split)
theorem tK{f:Value->Value->Sem Value}(h:∀x y,NS P (f x y)):∀(l:List Value) (x:Value),NS P (l.foldlM f x)
 | [],x=>by rw[List.foldlM_nil];trivial
 | y::r,x=>by rw[List.foldlM_cons];exact aa (h x y) λz=>tK h r z
theorem Su(a:Array TypeId)(t:TypeId)(x:Array Value):NS P (Builtin.max_ a t x):=by unfold Builtin.max_;split;trivial;exact tK OE _ _
theorem Ss(a:Array TypeId)(t:TypeId)(x:Array Value):NS P (Builtin.min_ a t x):=by unfold Builtin.min_;split;trivial;exact tK OD _ _
theorem tT{src dst:TypeId}{k0 k:IntKind}{n:Int}(hd:P.underlying dst=some (.int k0)):NS P (convert src dst (.int k n)):=by unfold convert;refine aa (az src) λds=>J9 hd ?_;cases ds<;>trivial
theorem jL{f:FuncId}{fn:Func}(hf:P.funcs[f]? = some fn)(hb:fn.body.isSome=true)(args:Array Value):NS P (callFunc f args):=by
 unfold callFunc;refine g9 ?_;rw[hf];have Zh:fn.body.isNone=false:=by cases h:fn.body<;>simp_all
 simp only[Zh];refine bq (by trivial) ?_;trivial
theorem pb{a:Act}{f:FuncId}{c:Call}{dst:Option Tmp}{ty:TypeId}{pos:String}{after:Array Edge}{guard:Option (Nat×Bool)}{x:Operand}{first captured:Array Value}(hc:c.callee=.value x)(hx:a.eval x=.func (.func f) first captured)(hn:∀args,NS P (callFunc f args)) :
  NS P (execOp a.eval ⟨dst,.call c,ty,pos,after,guard⟩):=by
 simp only[execOp,resolve,hc,hx,Deferred.ofValue];exact hn _
theorem iU:∀(d:Nat) (t:TypeId) (x y:Value),NS P (Op.eqGuardIn d t x y)
 | 0,_,_,_=>trivial
 | d+1,t,x,y=>by unfold Op.eqGuardIn;refine aa (az t) λdsc=>?_;split;trivial;refine aa (xY (λf s=>?_) _ _) λ⟨s,u⟩=>?_;refine bq (aa (cG _ _ _) λp=>aa (cG _ _ _) λq=>aa (iU d _ p q) λb=>bq (by trivial) (by trivial)) (by trivial);cases s<;>trivial;refine aa (br _) λn=>?_;simp only[Std.Legacy.Range.forIn_eq_forIn_range'];refine aa (o7 (λi s=>?_) _ _) λ⟨s,u⟩=>?_;exact aa (cG _ _ _) λp=>aa (cG _ _ _) λq=>aa (iU d _ p q) λb=>bq (by trivial) (by trivial);cases s<;>trivial;trivial
theorem oB(o:BinOp)(t:TypeId)(x y:Operand)(a b:Value):NS P (eqGuard o t x y a b):=by unfold eqGuard;refine bq (by trivial) ?_;split;refine bq (by trivial) (aa (iU _ _ _ _) λb=>bq (by trivial) (by trivial));refine g9 (g9 ?_);refine bq (by trivial) (aa (iU _ _ _ _) λb=>bq (by trivial) (by trivial));trivial
theorem qe(o:BinOp)(t:TypeId)(k k':IntKind)(a b:Int):NS P (binOp o t (.int k a) (.int k' b)):=by
 cases o<;>simp only[binOp]<;>first
  | (unfold Op.shift;exact bq (bn _) trivial)
  | (refine bq trivial ?_;first|trivial|(unfold Op.intDiv;exact bq (bn _) trivial))
theorem oC{o:BinOp}{x y:Value}(ho:o=.eql∨o=.neq)(hx:rC x)(hy:rC y):NS P (binOp o t x y):=by
 cases x with
 | int k a=>cases y with
  | int k' b=>exact qe _ _ _ _ _ _
  | _=>rcases ho with rfl|rfl<;>first|exact hy.elim|exact aa (jx _ _ _ _ hx hy) λ_=>trivial
 | bool b=>rcases ho with rfl|rfl<;>exact aa (jx _ _ _ _ hx hy) λ_=>trivial
 | string b=>cases y with
  | string c=>rcases ho with rfl|rfl<;>first|trivial|exact aa (jx _ _ _ _ hx hy) λ_=>trivial
  | _=>rcases ho with rfl|rfl<;>first|exact hy.elim|exact aa (jx _ _ _ _ hx hy) λ_=>trivial
 | agg cs=>rcases ho with rfl|rfl<;>exact aa (jx _ _ _ _ hx hy) λ_=>trivial
 | _=>exact hx.elim
end
end Go.Proofs.YtmdpdknpapjchaaGreatDoor
