/- Company, 5: comparisons, maps, calls.. -/
import Derived.Test.YtgigkennhdolpaaGreatDoorM2
namespace Go.Proofs.YtgigkennhdolpaaGreatDoor
open Go.Conc
section
variable {P:Program}
def yV:Value->Prop
 | .int _ _=>True
 | .bool _=>True
 | _=>False
def qk:Value->Prop
 | .int _ _=>True
 | .bool _=>True
 | .agg cs=>∀c∈cs,yV c
 | _=>False
theorem yV.a{v:Value}(h:yV v):qk v:=by cases v<;>first|trivial|exact h.elim
theorem ie{α:Type}{t:TypeId}{cs:Array Value}{off:Nat}(hc:∀c∈cs,yV c){f:Value->Sem α}(k:∀r,qk r->NS P (f r)):NS P (part t cs off >>= f):=by
 unfold part;rw[bind_assoc];refine aa (cb t) λb=>?_;cases b with
 | true=>
  simp only[if_true,bind_assoc,pure_bind];refine aa (bm t) λn=>k _ λc h=>?_;rw[Array.mem_iff_getElem?] at h;obtain⟨i,hi⟩:=h;rw[Array.getElem?_extract] at hi;split at hi;exact hc c (Array.mem_of_getElem? hi);cases hi
 | false=>
  simp only[Bool.false_eq_true,if_false];cases h:cs[off]? with
  | none=>trivial
  | some v=>exact k v (hc v (Array.mem_of_getElem? h)).a
theorem lG:∀(d:Nat) (t:TypeId) (x y:Value),qk x->qk y->NS P (Op.equalIn d t x y)
 | 0,_,_,_,_,_=>trivial
 | d+1,t,x,y,hx,hy=>by
  unfold Op.equalIn;refine aa (ak t) λdsc=>?_;cases x with
  | int k n=>cases y<;>first|exact hy.elim|(cases dsc<;>first|trivial|(refine bj ?_ ?_<;>trivial))
  | bool b=>cases y<;>first|exact hy.elim|(cases dsc<;>trivial)
  | agg xs=>
   cases y with
   | agg ys=>
    cases dsc with
    | struct fields=>
     refine gz ?_;refine bj (by trivial) ?_;refine aa (we (λf s=>?_) _ _) λ⟨s,u⟩=>?_;refine bj (ie hx λp hp=>ie hy λq hq=>aa (lG d _ p q hp hq) λb=>bj (by trivial) (by trivial)) (by trivial);cases s<;>trivial
    | array len elem=>
     refine aa (bm elem) λn=>?_;simp only[Std.Legacy.Range.forIn_eq_forIn_range'];refine aa (oc (λi s=>?_) _ _) λ⟨s,u⟩=>?_;exact ie hx λp hp=>ie hy λq hq=>aa (lG d _ p q hp hq) λb=>bj (by trivial) (by trivial);cases s<;>trivial
    | _=>trivial
   | _=>first|exact hy.elim|(cases dsc<;>trivial)
  | _=>exact hx.elim
theorem og(d:Nat)(t:TypeId)(x:Value):NS P (Op.equalIn d t x (.pointer none)):=by
 cases d with
 | zero=>trivial
 | succ d=>
  unfold Op.equalIn;refine aa (ak t) λdsc=>?_;cases dsc<;>cases x<;>first|trivial|(rename_i a;cases a<;>trivial)|(rename_i a _ _;cases a<;>trivial)
theorem Ig{α:Type}{t:TypeId}{d:TypeDesc}{f:TypeDesc->Sem α}(hu:P.underlying t=some d)(h:NS P (f d)):NS P (underlying t >>= f):=by have e:(underlying t >>= f)=Sem.program λp=>(match p.underlying t with|some d=>pure d|none=>stuck "no such type") >>= f:=rfl;rw[e];show NS P ((match P.underlying t with|some d=>pure d|none=>stuck "no such type") >>= f);rw[hu];exact h
theorem LM{α:Type}{t:TypeId}{i:TypeInfo}{f:Nat->Sem α}(hi:P.info? t=some i)(h:NS P (f i.size)):NS P (sizeOf t >>= f):=by have e:(sizeOf t >>= f)=Sem.program λp=>((match p.info? t with|some i=>pure i|none=>stuck "no such type") >>= λi=>pure i.size) >>= f:=rfl;rw[e];show NS P (((match P.info? t with|some i=>pure i|none=>stuck "no such type") >>= λi=>pure i.size) >>= f);rw[hi];exact h
theorem sa{s:TypeId}{v:Value}{k:Nat}{fs:Array Field}{f:Field}{i:TypeInfo}(hu:P.underlying s=some (.struct fs))(hf:fs[k]? = some f)(hi:P.info? f.type=some i)(hz:i.size≠0):NS P (Instr.fieldAt s v k):=by unfold Instr.fieldAt;refine Ig hu ?_;simp only[hf];refine aa (cJ v) λa=>aa ?_ λ_=>trivial;unfold fieldPlace;refine LM hi ?_;rw[Uv hz];trivial
theorem qe(t:TypeId):NS P (Instr.makeMap t none):=⟨trivial,λ_=>trivial⟩
theorem wm(d:Nat)(t:TypeId)(k:IntKind)(n:Int)(y:Value):NS P (Op.equalIn d t (.int k n) y):=by
 cases d with
 | zero=>trivial
 | succ d=>
  unfold Op.equalIn;refine aa (ak t) λdsc=>?_;split<;>first|trivial|(refine bj ?_ ?_<;>trivial)|(rename_i h _;cases h)|skip
def pf:Value->Prop
 | .int _ _=>True
 | .string _=>True
 | _=>False
theorem wh(d:Nat)(t:TypeId)(s:ByteArray)(y:Value):NS P (Op.equalIn d t (.string s) y):=by
 cases d with
 | zero=>trivial
 | succ d=>
  unfold Op.equalIn;refine aa (ak t) λdsc=>?_;split<;>first|trivial|(refine bj ?_ ?_<;>trivial)|(rename_i h _;cases h)|skip
theorem wj(d:Nat)(t:TypeId){v:Value}(h:pf v)(y:Value):NS P (Op.equalIn d t v y):=by
 cases v with
 | int k n=>exact wm d t k n y
 | string s=>exact wh d t s y
 | _=>exact h.elim
theorem eQ(e:Bool):∀(d:Nat) (t:TypeId) (v:Value),NS P (Instr.checkKey e d t v)
 | 0,_,_=>trivial
 | d+1,t,v=>by unfold Instr.checkKey;refine aa (ak t) λdsc=>?_;split;refine aa (aP _) λi=>?_;have hs:∀t,NS P (typeStr t):=λt=>aa (aP t) λi=>bj (by trivial) (by trivial);refine bj ?_ (eQ e d _ _);refine bj (aa (bc _) λ_=>aa (hs _) λ_=>aa (bc _) λ_=>eQ e d _ _) (aa (hs _) λ_=>aa (bc _) λ_=>eQ e d _ _);simp only[Std.Legacy.Range.forIn_eq_forIn_range'];refine aa (oc (λi s=>?_) _ _) λ_=>(by trivial);exact aa (bm _) λn=>aa (cp _ _ _) λp=>aa (eQ e d _ p) λ_=>(by trivial);refine aa (we (λf s=>?_) _ _) λ_=>(by trivial);exact bj (aa (cp _ _ _) λp=>aa (eQ e d _ p) λ_=>by trivial) (by trivial);all_goals trivial
theorem m3(t:TypeId){v:Value}(h:pf v):∀(l:List MapEntry) (i:Nat),NS P (Instr.findAsking t v l i)
 | [],_=>trivial
 | e::r,i=>aa (wj _ _ h _) λb=>bj (by trivial) (m3 t h r (i+1))
theorem rZ(t:TypeId){v:Value}(h:pf v)(l:List MapEntry):NS P (Instr.findKey t v l):=by unfold Instr.findKey;refine aa (ak t) λd=>?_;split;trivial;exact m3 _ h _ _
theorem Ba(t:TypeId)(x:Value){kv:Value}(hk:pf kv)(ok:Bool):NS P (Instr.lookup t x kv ok):=by
 unfold Instr.lookup;refine aa (ak t) λd=>?_;split
 ·have rest:∀es key elem,NS P (do
    Instr.checkKey (Array.isEmpty es) 10000 key kv
    let (v,okk) <-match <-Instr.findKey key kv (Array.toList es) with
     | some (_,v)=>pure (v,true)
     | none=>pure (<-zeroValue elem,false)
    pure (if ok then .tuple #[v,.bool okk] else v):Sem Value):=λes key elem=>by
   refine aa (eQ _ _ _ _) λ_=>aa (rZ _ hk _) λr=>?_;cases ok<;>cases r<;>first|trivial|exact aa (aO _) λ_=>trivial
  cases x with
  | map r=>
   cases r with
   | none=>exact rest #[] _ _
   | some r=>
    refine aa (dM r) λo=>?_;cases o<;>first|exact rest _ _ _|trivial
  | _=>trivial
 trivial
theorem tY(t:TypeId)(m:Value){kv:Value}(hk:pf kv)(v:Value):NS P (Instr.mapUpdate t m kv v):=by
 unfold Instr.mapUpdate;refine aa (ak t) λd=>?_;split
 ·cases m with
  | map r=>
   cases r with
   | none=>exact bc _
   | some r=>
    refine aa (dM r) λo=>?_;split;refine aa (eQ _ _ _ _) λ_=>aa (rZ _ hk _) λr=>?_;split;refine aa ?_ λ_=>fM _ _ _;unfold Instr.keyThatStays;exact bj (by trivial) (aa (bC _) λ_=>by trivial);exact fM _ _ _;trivial
  | _=>trivial
 trivial
theorem v9(d:Nat)(t:TypeId)(a:Option Addr)(l c:Nat):NS P (Op.equalIn d t (.slice a l c) (.slice none 0 0)):=by
 cases d with
 | zero=>trivial
 | succ d=>
  unfold Op.equalIn;refine aa (ak t) λdsc=>?_;cases dsc<;>cases a<;>trivial
theorem LP(x y:Value):NS P (Builtin.max2 x y):=by unfold Builtin.max2;repeat' (first|trivial|exact aa (bC _) λ_=>trivial|exact aa (WB _ _ _) λ_=>aa (bD _) λ_=>trivial|exact aa (aa (WB _ _ _) λ_=>bD _) λ_=>trivial|split)
theorem LN(x y:Value):NS P (Builtin.min2 x y):=by unfold Builtin.min2;repeat' (first|trivial|exact aa (bC _) λ_=>trivial|exact aa (WB _ _ _) λ_=>aa (bD _) λ_=>trivial|exact aa (aa (WB _ _ _) λ_=>bD _) λ_=>trivial|split)
theorem rY{f:Value->Value->Sem Value}(h:∀x y,NS P (f x y)):∀(l:List Value) (x:Value),NS P (l.foldlM f x)
 | [],x=>by rw[List.foldlM_nil];trivial
 | y::r,x=>by rw[List.foldlM_cons];exact aa (h x y) λz=>rY h r z
theorem Py(a:Array TypeId)(t:TypeId)(x:Array Value):NS P (Builtin.max_ a t x):=by unfold Builtin.max_;split;trivial;exact rY LP _ _
theorem Px(a:Array TypeId)(t:TypeId)(x:Array Value):NS P (Builtin.min_ a t x):=by unfold Builtin.min_;split;trivial;exact rY LN _ _
theorem sh{src dst:TypeId}{k0 k:IntKind}{n:Int}(hd:P.underlying dst=some (.int k0)):NS P (convert src dst (.int k n)):=by unfold convert;refine aa (ak src) λds=>Ig hd ?_;cases ds<;>trivial
theorem jd{f:FuncId}{fn:Func}(hf:P.funcs[f]? = some fn)(hb:fn.body.isSome=true)(args:Array Value):NS P (callFunc f args):=by
 unfold callFunc;refine gz ?_;rw[hf];have We:fn.body.isNone=false:=by cases h:fn.body<;>simp_all
 simp only[We];refine bj (by trivial) ?_;trivial
theorem oi{a:Act}{f:FuncId}{c:Call}{dst:Option Tmp}{ty:TypeId}{pos:String}{after:Array Edge}{guard:Option (Nat×Bool)}{x:Operand}{first captured:Array Value}(hc:c.callee=.value x)(hx:a.eval x=.func (.func f) first captured)(hn:∀args,NS P (callFunc f args)) :
  NS P (execOp a.eval ⟨dst,.call c,ty,pos,after,guard⟩):=by
 simp only[execOp,resolve,hc,hx,Deferred.ofValue];exact hn _
theorem ig:∀(d:Nat) (t:TypeId) (x y:Value),NS P (Op.eqGuardIn d t x y)
 | 0,_,_,_=>trivial
 | d+1,t,x,y=>by unfold Op.eqGuardIn;refine aa (ak t) λdsc=>?_;split;trivial;refine aa (we (λf s=>?_) _ _) λ⟨s,u⟩=>?_;refine bj (aa (cp _ _ _) λp=>aa (cp _ _ _) λq=>aa (ig d _ p q) λb=>bj (by trivial) (by trivial)) (by trivial);cases s<;>trivial;refine aa (bm _) λn=>?_;simp only[Std.Legacy.Range.forIn_eq_forIn_range'];refine aa (oc (λi s=>?_) _ _) λ⟨s,u⟩=>?_;exact aa (cp _ _ _) λp=>aa (cp _ _ _) λq=>aa (ig d _ p q) λb=>bj (by trivial) (by trivial);cases s<;>trivial;trivial
theorem nF(o:BinOp)(t:TypeId)(x y:Operand)(a b:Value):NS P (eqGuard o t x y a b):=by unfold eqGuard;refine bj (by trivial) ?_;split;refine bj (by trivial) (aa (ig _ _ _ _) λb=>bj (by trivial) (by trivial));refine gz (gz ?_);refine bj (by trivial) (aa (ig _ _ _ _) λb=>bj (by trivial) (by trivial));trivial
theorem pa(o:BinOp)(t:TypeId)(k k':IntKind)(a b:Int):NS P (binOp o t (.int k a) (.int k' b)):=by
 cases o<;>simp only[binOp]<;>first
  | (unfold Op.shift;exact bj (bc _) trivial)
  | (refine bj trivial ?_;first|trivial|(unfold Op.intDiv;exact bj (bc _) trivial))
theorem nG{o:BinOp}{t:TypeId}{x y:Value}(ho:o=.eql∨o=.neq)(hx:qk x)(hy:qk y):NS P (binOp o t x y):=by
 cases x with
 | int k a=>cases y with
  | int k' b=>exact pa _ _ _ _ _ _
  | _=>rcases ho with rfl|rfl<;>first|exact hy.elim|exact aa (lG _ _ _ _ hx hy) λ_=>trivial
 | bool b=>rcases ho with rfl|rfl<;>exact aa (lG _ _ _ _ hx hy) λ_=>trivial
 | agg cs=>rcases ho with rfl|rfl<;>exact aa (lG _ _ _ _ hx hy) λ_=>trivial
 | _=>exact hx.elim
end
end Go.Proofs.YtgigkennhdolpaaGreatDoor
