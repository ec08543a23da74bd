/- Company, 5: comparisons, maps, calls.. -/
import Derived.Test.YtgigkennhdolpaaGreatDoorM2
namespace Go.Proofs.YtgigkennhdolpaaGreatDoor
open Go.Conc
section
variable {P:Program}
def za:Value->Prop
 | .int _ _=>True
 | .bool _=>True
 | _=>False
def qB:Value->Prop
 | .int _ _=>True
 | .bool _=>True
 | .agg cs=>∀c∈cs,za c
 | _=>False
theorem za.a{v:Value}(h:za v):qB v:=by cases v<;>first|trivial|exact h.elim
theorem iN{α:Type}{t:TypeId}{cs:Array Value}{off:Nat}(hc:∀c∈cs,za c){f:Value->Sem α}(k:∀r,qB r->NS P (f r)):NS P (part t cs off >>= f):=by
 unfold part;rw[bind_assoc];refine aa (cj t) λb=>?_;cases b with
 | true=>
  simp only[if_true,bind_assoc,pure_bind];refine aa (bq t) λn=>k _ λc h=>?_;rw[Array.mem_iff_getElem?] at h;obtain⟨i,hi⟩:=h;rw[Array.getElem?_extract] at hi;split at hi;exact hc c (Array.mem_of_getElem? hi);cases hi
 | false=>
  simp only[Bool.false_eq_true,if_false];cases h:cs[off]? with
  | none=>trivial
  | some v=>exact k v (hc v (Array.mem_of_getElem? h)).a
theorem lR:∀(d:Nat) (t:TypeId) (x y:Value),qB x->qB y->NS P (Op.equalIn d t x y)
 | 0,_,_,_,_,_=>trivial
 | d+1,t,x,y,hx,hy=>by
  unfold Op.equalIn;refine aa (av t) λdsc=>?_;cases x with
  | int k n=>cases y<;>first|exact hy.elim|(cases dsc<;>first|trivial|(refine bu ?_ ?_<;>trivial))
  | bool b=>cases y<;>first|exact hy.elim|(cases dsc<;>trivial)
  | agg xs=>
   cases y with
   | agg ys=>
    cases dsc with
    | struct fields=>
     refine g5 ?_;refine bu (by trivial) ?_;refine aa (wz (λf s=>?_) _ _) λ⟨s,u⟩=>?_;refine bu (iN hx λp hp=>iN hy λq hq=>aa (lR d _ p q hp hq) λb=>bu (by trivial) (by trivial)) (by trivial);cases s<;>trivial
    | array len elem=>
     refine aa (bq elem) λn=>?_;simp only[Std.Legacy.Range.forIn_eq_forIn_range'];refine aa (om (λi s=>?_) _ _) λ⟨s,u⟩=>?_;exact iN hx λp hp=>iN hy λq hq=>aa (lR d _ p q hp hq) λb=>bu (by trivial) (by trivial);cases s<;>trivial
    | _=>trivial
   | _=>first|exact hy.elim|(cases dsc<;>trivial)
  | _=>exact hx.elim
theorem oq(d:Nat)(t:TypeId)(x:Value):NS P (Op.equalIn d t x (.pointer none)):=by
 cases d with
 | zero=>trivial
 | succ d=>
  unfold Op.equalIn;refine aa (av t) λdsc=>?_;cases dsc<;>cases x<;>first|trivial|(rename_i a;cases a<;>trivial)|(rename_i a _ _;cases a<;>trivial)
theorem IZ{α:Type}{t:TypeId}{d:TypeDesc}{f:TypeDesc->Sem α}(hu:P.underlying t=some d)(h:NS P (f d)):NS P (underlying t >>= f):=by have e:(underlying t >>= f)=Sem.program λp=>(match p.underlying t with|some d=>pure d|none=>stuck "no such type") >>= f:=rfl;rw[e];show NS P ((match P.underlying t with|some d=>pure d|none=>stuck "no such type") >>= f);rw[hu];exact h
theorem MC{α:Type}{t:TypeId}{i:TypeInfo}{f:Nat->Sem α}(hi:P.info? t=some i)(h:NS P (f i.size)):NS P (sizeOf t >>= f):=by have e:(sizeOf t >>= f)=Sem.program λp=>((match p.info? t with|some i=>pure i|none=>stuck "no such type") >>= λi=>pure i.size) >>= f:=rfl;rw[e];show NS P (((match P.info? t with|some i=>pure i|none=>stuck "no such type") >>= λi=>pure i.size) >>= f);rw[hi];exact h
theorem sC{s:TypeId}{v:Value}{k:Nat}{fs:Array Field}{f:Field}{i:TypeInfo}(hu:P.underlying s=some (.struct fs))(hf:fs[k]? = some f)(hi:P.info? f.type=some i)(hz:i.size≠0):NS P (Instr.fieldAt s v k):=by unfold Instr.fieldAt;refine IZ hu ?_;simp only[hf];refine aa (cN v) λa=>aa ?_ λ_=>trivial;unfold fieldPlace;refine MC hi ?_;rw[UC hz];trivial
theorem qw(t:TypeId):NS P (Instr.makeMap t none):=⟨trivial,λ_=>trivial⟩
theorem wA(d:Nat)(t:TypeId)(k:IntKind)(n:Int)(y:Value):NS P (Op.equalIn d t (.int k n) y):=by
 cases d with
 | zero=>trivial
 | succ d=>
  unfold Op.equalIn;refine aa (av t) λdsc=>?_;split<;>first|trivial|(refine bu ?_ ?_<;>trivial)|(rename_i h _;cases h)|skip
theorem fh(e:Bool):∀(d:Nat) (t:TypeId) (v:Value),NS P (Instr.checkKey e d t v)
 | 0,_,_=>trivial
 | d+1,t,v=>by unfold Instr.checkKey;refine aa (av t) λdsc=>?_;split;refine aa (aT _) λi=>?_;have hs:∀t,NS P (typeStr t):=λt=>aa (aT t) λi=>bu (by trivial) (by trivial);refine bu ?_ (fh e d _ _);refine bu (aa (bj _) λ_=>aa (hs _) λ_=>aa (bj _) λ_=>fh e d _ _) (aa (hs _) λ_=>aa (bj _) λ_=>fh e d _ _);simp only[Std.Legacy.Range.forIn_eq_forIn_range'];refine aa (om (λi s=>?_) _ _) λ_=>(by trivial);exact aa (bq _) λn=>aa (cu _ _ _) λp=>aa (fh e d _ p) λ_=>(by trivial);refine aa (wz (λf s=>?_) _ _) λ_=>(by trivial);exact bu (aa (cu _ _ _) λp=>aa (fh e d _ p) λ_=>by trivial) (by trivial);all_goals trivial
theorem m7(t:TypeId)(k:IntKind)(n:Int):∀(l:List MapEntry) (i:Nat),NS P (Instr.findAsking t (.int k n) l i)
 | [],_=>trivial
 | e::r,i=>aa (wA _ _ _ _ _) λb=>bu (by trivial) (m7 t k n r (i+1))
theorem sB(t:TypeId)(k:IntKind)(n:Int)(l:List MapEntry):NS P (Instr.findKey t (.int k n) l):=by unfold Instr.findKey;refine aa (av t) λd=>?_;split;trivial;exact m7 _ _ _ _ _
theorem Ff(t:TypeId)(x:Value)(k:IntKind)(n:Int)(ok:Bool):NS P (Instr.lookup t x (.int k n) ok):=by
 unfold Instr.lookup;refine aa (av t) λd=>?_;split
 ·have rest:∀es key elem,NS P (do
    Instr.checkKey (Array.isEmpty es) 10000 key (.int k n)
    let (v,okk) <-match <-Instr.findKey key (.int k n) (Array.toList es) with
     | some (_,v)=>pure (v,true)
     | none=>pure (<-zeroValue elem,false)
    pure (if ok then .tuple #[v,.bool okk] else v):Sem Value):=λes key elem=>by
   refine aa (fh _ _ _ _) λ_=>aa (sB _ _ _ _) λr=>?_;cases ok<;>cases r<;>first|trivial|exact aa (aQ _) λ_=>trivial
  cases x with
  | map r=>
   cases r with
   | none=>exact rest #[] _ _
   | some r=>
    refine aa (er r) λo=>?_;cases o<;>first|exact rest _ _ _|trivial
  | _=>trivial
 trivial
theorem wx(t:TypeId)(m:Value)(k:IntKind)(n:Int)(v:Value):NS P (Instr.mapUpdate t m (.int k n) v):=by
 unfold Instr.mapUpdate;refine aa (av t) λd=>?_;split
 ·cases m with
  | map r=>
   cases r with
   | none=>exact bj _
   | some r=>
    refine aa (er r) λo=>?_;split;refine aa (fh _ _ _ _) λ_=>aa (sB _ _ _ _) λr=>?_;split;refine aa ?_ λ_=>gw _ _ _;unfold Instr.keyThatStays;exact bu (by trivial) (aa (bJ _) λ_=>by trivial);exact gw _ _ _;trivial
  | _=>trivial
 trivial
theorem wv(d:Nat)(t:TypeId)(a:Option Addr)(l c:Nat):NS P (Op.equalIn d t (.slice a l c) (.slice none 0 0)):=by
 cases d with
 | zero=>trivial
 | succ d=>
  unfold Op.equalIn;refine aa (av t) λdsc=>?_;cases dsc<;>cases a<;>trivial
theorem ME(x y:Value):NS P (Builtin.max2 x y):=by unfold Builtin.max2;repeat' (first|trivial|exact aa (bJ _) λ_=>trivial|exact aa (WN _ _ _) λ_=>aa (bK _) λ_=>trivial|exact aa (aa (WN _ _ _) λ_=>bK _) λ_=>trivial|split)
theorem MD(x y:Value):NS P (Builtin.min2 x y):=by unfold Builtin.min2;repeat' (first|trivial|exact aa (bJ _) λ_=>trivial|exact aa (WN _ _ _) λ_=>aa (bK _) λ_=>trivial|exact aa (aa (WN _ _ _) λ_=>bK _) λ_=>trivial|split)
theorem sA{f:Value->Value->Sem Value}(h:∀x y,NS P (f x y)):∀(l:List Value) (x:Value),NS P (l.foldlM f x)
 | [],x=>by rw[List.foldlM_nil];trivial
 | y::r,x=>by rw[List.foldlM_cons];exact aa (h x y) λz=>sA h r z
theorem P0(a:Array TypeId)(t:TypeId)(x:Array Value):NS P (Builtin.max_ a t x):=by unfold Builtin.max_;split;trivial;exact sA ME _ _
theorem PZ(a:Array TypeId)(t:TypeId)(x:Array Value):NS P (Builtin.min_ a t x):=by unfold Builtin.min_;split;trivial;exact sA MD _ _
theorem sF{src dst:TypeId}{k0 k:IntKind}{n:Int}(hd:P.underlying dst=some (.int k0)):NS P (convert src dst (.int k n)):=by unfold convert;refine aa (av src) λds=>IZ hd ?_;cases ds<;>trivial
theorem jA{f:FuncId}{fn:Func}(hf:P.funcs[f]? = some fn)(hb:fn.body.isSome=true)(args:Array Value):NS P (callFunc f args):=by
 unfold callFunc;refine g5 ?_;rw[hf];have WE:fn.body.isNone=false:=by cases h:fn.body<;>simp_all
 simp only[WE];refine bu (by trivial) ?_;trivial
theorem ou{a:Act}{f:FuncId}{c:Call}{dst:Option Tmp}{ty:TypeId}{pos:String}{after:Array Edge}{guard:Option (Nat×Bool)}{x:Operand}{first captured:Array Value}(hc:c.callee=.value x)(hx:a.eval x=.func (.func f) first captured)(hn:∀args,NS P (callFunc f args)) :
  NS P (execOp a.eval ⟨dst,.call c,ty,pos,after,guard⟩):=by
 simp only[execOp,resolve,hc,hx,Deferred.ofValue];exact hn _
theorem iO:∀(d:Nat) (t:TypeId) (x y:Value),NS P (Op.eqGuardIn d t x y)
 | 0,_,_,_=>trivial
 | d+1,t,x,y=>by unfold Op.eqGuardIn;refine aa (av t) λdsc=>?_;split;trivial;refine aa (wz (λf s=>?_) _ _) λ⟨s,u⟩=>?_;refine bu (aa (cu _ _ _) λp=>aa (cu _ _ _) λq=>aa (iO d _ p q) λb=>bu (by trivial) (by trivial)) (by trivial);cases s<;>trivial;refine aa (bq _) λn=>?_;simp only[Std.Legacy.Range.forIn_eq_forIn_range'];refine aa (om (λi s=>?_) _ _) λ⟨s,u⟩=>?_;exact aa (cu _ _ _) λp=>aa (cu _ _ _) λq=>aa (iO d _ p q) λb=>bu (by trivial) (by trivial);cases s<;>trivial;trivial
theorem nH(o:BinOp)(t:TypeId)(x y:Operand)(a b:Value):NS P (eqGuard o t x y a b):=by unfold eqGuard;refine bu (by trivial) ?_;split;refine bu (by trivial) (aa (iO _ _ _ _) λb=>bu (by trivial) (by trivial));refine g5 (g5 ?_);refine bu (by trivial) (aa (iO _ _ _ _) λb=>bu (by trivial) (by trivial));trivial
theorem pD(o:BinOp)(t:TypeId)(k k':IntKind)(a b:Int):NS P (binOp o t (.int k a) (.int k' b)):=by
 cases o<;>simp only[binOp]<;>first
  | (unfold Op.shift;exact bu (bj _) trivial)
  | (refine bu trivial ?_;first|trivial|(unfold Op.intDiv;exact bu (bj _) trivial))
theorem nI{o:BinOp}{t:TypeId}{x y:Value}(ho:o=.eql∨o=.neq)(hx:qB x)(hy:qB y):NS P (binOp o t x y):=by
 cases x with
 | int k a=>cases y with
  | int k' b=>exact pD _ _ _ _ _ _
  | _=>rcases ho with rfl|rfl<;>first|exact hy.elim|exact aa (lR _ _ _ _ hx hy) λ_=>trivial
 | bool b=>rcases ho with rfl|rfl<;>exact aa (lR _ _ _ _ hx hy) λ_=>trivial
 | agg cs=>rcases ho with rfl|rfl<;>exact aa (lR _ _ _ _ hx hy) λ_=>trivial
 | _=>exact hx.elim
end
end Go.Proofs.YtgigkennhdolpaaGreatDoor
