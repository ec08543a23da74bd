/- Company, 3: operations that ask neither how large a block is nor whether it is frozen. Company, 5: comparisons, maps, calls. -/
import Derived.Test.YtgigkennhdolpaaGreatDoorM3
namespace Go.Proofs.YtgigkennhdolpaaGreatDoor
open Go.Conc
section
variable {P:Program}
theorem ab{α β:Type}{m:Sem α}{f:α→Sem β}(h:NS P m)(k:∀a,NS P (f a)):NS P (m >>= f):=NS.bind h k
theorem bq{α:Type}{c:Prop} [Decidable c]{a b:Sem α}(h:NS P a)(k:NS P b):NS P (if c then a else b):=by split<;>assumption
theorem bD(q:Question):NS P (choose q):=fun _=>trivial
theorem fX{β:Type}{f:Program→Sem β}(h:NS P (f P)):NS P (program >>= f):=h
theorem aN(t:TypeId):NS P (typeInfo t):=(oF t).ns
theorem au(t:TypeId):NS P (underlying t):=by
 unfold underlying
 refine fX ?_
 split<;>trivial
theorem bn(t:TypeId):NS P (sizeOf t):=(lo_sizeOf t).ns
theorem b8(t:TypeId):NS P (isAgg t):=(lo_isAgg t).ns
theorem aL(t:TypeId):NS P (zeroValue t):=by
 unfold zeroValue
 refine ab (aN t) fun i=>?_
 split<;>trivial
theorem dc(e:TypeId)(cs:Array Value):NS P (newRow e cs):=⟨trivial,fun _=>trivial⟩
theorem bC(e:TypeId)(v:Value):NS P (newVar e v):=dc _ _
theorem bA(t:TypeId)(a:Addr):NS P (loadVar t a):=(lo_loadVar t a).ns
theorem aW(a:Addr)(n:Nat):NS P (loadCells a n):=(kl a n 0 #[]).ns
theorem dt(r:Nat):NS P (getObj r):=fun _=>trivial
theorem fe(r:Nat)(es:Array MapEntry)(c:Nat):NS P (setObj r (.map es c)):=⟨trivial,trivial⟩
theorem aI(a:Addr):∀(vs:List Value)(i:Nat),NS P (storeCells a vs i)
 | [],_=>trivial
 | v::r,i=>aI a r (i+1)
theorem bh(t:TypeId)(a:Addr)(v:Value):NS P (storeVar t a v):=by
 unfold storeVar
 refine ab (bn t) fun n=>?_
 split
 ·trivial
 ·exact aI _ _ _
theorem br{α:Type}(e:RuntimeError):NS P (runtimePanic e:Sem α):=by
 unfold runtimePanic
 refine fX ?_
 cases e<;>first|trivial|skip
 ·refine ab (ab (au _) fun d=>by split<;>trivial) fun e=>ab (bC _ _) fun r=>trivial
 ·refine ab (ab (au _) fun d=>by split<;>trivial) fun e=>ab (bC _ _) fun r=>trivial
theorem ns_map{α β:Type}{m:Sem α}(f:α→β)(h:NS P m):NS P (f <$> m):=by
 rw[map_eq_pure_bind]
 exact ab h fun _=>trivial
theorem bZ{α:Type}(k:IntKind)(x y:Int)(c:BoundsCode):NS P (boundsPanic k x y c:Sem α):=by
 unfold boundsPanic
 try dsimp only
 repeat' (first|exact trivial|exact aL _|exact au _|exact aN _|exact bn _|exact b8 _|exact dc _ _|exact bC _ _|exact bA _ _|exact aW _ _|exact aI _ _ _|exact bh _ _ _|exact br _|exact bD _|exact ns_map _ (bD _)|(refine ab ?_ fun _=>?_)|(refine bq ?_ ?_)|split|(dsimp only;done)|dsimp only)
theorem bN(v:Value):NS P (asIntOf v):=by unfold asIntOf;split<;>trivial
theorem cp(v:Value):NS P (asInt v):=ab (bN v) fun _=>trivial
theorem bE(v:Value):NS P (asBool v):=by unfold asBool;split<;>trivial
theorem cz(v:Value):NS P (asAgg v):=by unfold asAgg;split<;>trivial
theorem b7(v:Value):NS P (asAddr v):=by
 unfold asAddr
 split<;>first|trivial|exact br _
theorem cD(v:Value):NS P (Instr.sureAddr v):=by unfold Instr.sureAddr;split<;>trivial
theorem cj(t:TypeId)(cs:Array Value)(off:Nat):NS P (part t cs off):=by
 unfold part
 refine ab (b8 t) fun b=>?_
 cases b with
 | true=>exact ab (bn t) fun _=>trivial
 | false=>
  simp only[Bool.false_eq_true,if_false]
  split<;>trivial
theorem ns_mapL{α β:Type}{f:α→Sem β}(h:∀x,NS P (f x)):∀(l:List α),NS P (l.mapM f)
 | []=>trivial
 | x::r=>by
  rw[List.mapM_cons]
  exact ab (h x) fun y=>ab (ns_mapL h r) fun _=>trivial
theorem ns_mapA{α β:Type}{f:α→Sem β}(h:∀x,NS P (f x))(l:Array α):NS P (l.mapM f):=by
 rw[Array.mapM_eq_mapM_toList,map_eq_pure_bind]
 exact ab (ns_mapL h _) fun _=>trivial
theorem mJ{α σ:Type}{f:α→σ→Sem (ForInStep σ)}(h:∀x s,NS P (f x s)):∀(l:List α)(s:σ),NS P (forIn l s f)
 | [],s=>by rw[List.forIn_nil];trivial
 | x::r,s=>by
  rw[List.forIn_cons]
  refine ab (h x s) fun y=>?_
  cases y with
  | done b=>trivial
  | yield b=>exact mJ h r b
theorem ns_forA{α σ:Type}{f:α→σ→Sem (ForInStep σ)}(h:∀x s,NS P (f x s))(l:Array α)(s:σ):NS P (forIn l s f):=by
 rw[←Array.forIn_toList]
 exact mJ h _ s
theorem bR(b:Nat):NS P (askRoom b):=by
 unfold askRoom
 split
 ·exact⟨rfl,trivial⟩
 ·trivial
theorem nF(t:TypeId)(v:Value):NS P (Instr.loadAt t v):=ab (cD v) fun a=>bA t a
theorem jF(t:TypeId)(v x:Value):NS P (Instr.storeAt t v x):=ab (cD v) fun a=>bh t a x
theorem ns_alloc(t:TypeId):NS P (Instr.alloc t true (.tuple #[])):=ab (aL t) fun z=>ab (bC t z) fun _=>trivial
theorem ns_box(t:TypeId)(v:Value):NS P (Instr.box t v):=ab (bC t v) fun _=>trivial
theorem ns_build(t:TypeId)(ps:Array (Nat×Value)):NS P (Instr.build t ps):=by
 unfold Instr.build
 try dsimp only
 repeat' (first|exact trivial|exact aL _|exact au _|exact aN _|exact bn _|exact b8 _|exact dc _ _|exact bC _ _|exact bA _ _|exact aW _ _|exact aI _ _ _|exact bh _ _ _|exact br _|exact bZ _ _ _ _|exact bN _|exact cp _|exact bE _|exact cz _|exact b7 _|exact cD _|exact cj _ _ _|exact bR _|exact bD _|(refine ns_mapA (fun _=>?_) _)|(refine ab ?_ fun _=>?_)|(refine bq ?_ ?_)|split|(dsimp only;done)|dsimp only)
theorem ns_buildSlice(t:TypeId)(n:Nat)(ps:Array (Nat×Value)):NS P (Instr.buildSlice t n ps):=by
 unfold Instr.buildSlice
 try dsimp only
 repeat' (first|exact trivial|exact aL _|exact au _|exact aN _|exact bn _|exact b8 _|exact dc _ _|exact bC _ _|exact bA _ _|exact aW _ _|exact aI _ _ _|exact bh _ _ _|exact br _|exact bZ _ _ _ _|exact bN _|exact cp _|exact bE _|exact cz _|exact b7 _|exact cD _|exact cj _ _ _|exact bR _|exact bD _|(refine ab ?_ fun _=>?_)|(refine bq ?_ ?_)|split|(dsimp only;done)|dsimp only)
theorem ns_field(t:TypeId)(x:Value)(k:Nat):NS P (Instr.field t x k):=by
 unfold Instr.field
 try dsimp only
 repeat' (first|exact trivial|exact aL _|exact au _|exact aN _|exact bn _|exact b8 _|exact dc _ _|exact bC _ _|exact bA _ _|exact aW _ _|exact aI _ _ _|exact bh _ _ _|exact br _|exact bZ _ _ _ _|exact bN _|exact cp _|exact bE _|exact cz _|exact b7 _|exact cD _|exact cj _ _ _|exact bR _|exact bD _|(refine ab ?_ fun _=>?_)|(refine bq ?_ ?_)|split|(dsimp only;done)|dsimp only)
theorem ns_extract(x:Value)(i:Nat):NS P (Instr.extract x i):=by
 unfold Instr.extract
 try dsimp only
 repeat' (first|exact trivial|exact aL _|exact au _|exact aN _|exact bn _|exact b8 _|exact dc _ _|exact bC _ _|exact bA _ _|exact aW _ _|exact aI _ _ _|exact bh _ _ _|exact br _|exact bZ _ _ _ _|exact bN _|exact cp _|exact bE _|exact cz _|exact b7 _|exact cD _|exact cj _ _ _|exact bR _|exact bD _|(refine ab ?_ fun _=>?_)|(refine bq ?_ ?_)|split|(dsimp only;done)|dsimp only)
theorem ns_makeSlice(t:TypeId)(l c:Value):NS P (Instr.makeSlice t l c):=by
 unfold Instr.makeSlice
 try dsimp only
 repeat' (first|exact trivial|exact aL _|exact au _|exact aN _|exact bn _|exact b8 _|exact dc _ _|exact bC _ _|exact bA _ _|exact aW _ _|exact aI _ _ _|exact bh _ _ _|exact br _|exact bZ _ _ _ _|exact bN _|exact cp _|exact bE _|exact cz _|exact b7 _|exact cD _|exact cj _ _ _|exact bR _|exact bD _|(refine ab ?_ fun _=>?_)|(refine bq ?_ ?_)|split|(dsimp only;done)|dsimp only)
theorem ns_index(t:TypeId)(x i:Value):NS P (Instr.index t x i):=by
 unfold Instr.index
 try dsimp only
 repeat' (first|exact trivial|exact aL _|exact au _|exact aN _|exact bn _|exact b8 _|exact dc _ _|exact bC _ _|exact bA _ _|exact aW _ _|exact aI _ _ _|exact bh _ _ _|exact br _|exact bZ _ _ _ _|exact bN _|exact cp _|exact bE _|exact cz _|exact b7 _|exact cD _|exact cj _ _ _|exact bR _|exact bD _|(refine ab ?_ fun _=>?_)|(refine bq ?_ ?_)|split|(dsimp only;done)|dsimp only)
theorem ns_indexAt(t:TypeId)(x i:Value):NS P (Instr.indexAt t x i):=by
 unfold Instr.indexAt
 try dsimp only
 repeat' (first|exact trivial|exact aL _|exact au _|exact aN _|exact bn _|exact b8 _|exact dc _ _|exact bC _ _|exact bA _ _|exact aW _ _|exact aI _ _ _|exact bh _ _ _|exact br _|exact bZ _ _ _ _|exact bN _|exact cp _|exact bE _|exact cz _|exact b7 _|exact cD _|exact cj _ _ _|exact bR _|exact bD _|(refine ab ?_ fun _=>?_)|(refine bq ?_ ?_)|split|(dsimp only;done)|dsimp only)
theorem ns_bound(x:Value)(y:Nat)(c:BoundsCode):NS P (Instr.sliceBound x y c):=by
 unfold Instr.sliceBound
 try dsimp only
 repeat' (first|exact trivial|exact aL _|exact au _|exact aN _|exact bn _|exact b8 _|exact dc _ _|exact bC _ _|exact bA _ _|exact aW _ _|exact aI _ _ _|exact bh _ _ _|exact br _|exact bZ _ _ _ _|exact bN _|exact cp _|exact bE _|exact cz _|exact b7 _|exact cD _|exact cj _ _ _|exact bR _|exact bD _|(refine ab ?_ fun _=>?_)|(refine bq ?_ ?_)|split|(dsimp only;done)|dsimp only)
theorem ns_bounds3(b:Bool)(l c:Nat)(lo hi mx:Option Value):NS P (Instr.sliceBounds b l c lo hi mx):=by
 unfold Instr.sliceBounds
 try dsimp only
 repeat' (first|exact trivial|exact aL _|exact au _|exact aN _|exact bn _|exact b8 _|exact dc _ _|exact bC _ _|exact bA _ _|exact aW _ _|exact aI _ _ _|exact bh _ _ _|exact br _|exact bZ _ _ _ _|exact bN _|exact cp _|exact bE _|exact cz _|exact b7 _|exact cD _|exact cj _ _ _|exact bR _|exact bD _|exact ns_bound _ _ _|(refine ab ?_ fun _=>?_)|(refine bq ?_ ?_)|split|(dsimp only;done)|dsimp only)
theorem ns_slice(t:TypeId)(x:Value)(lo hi mx:Option Value):NS P (Instr.slice t x lo hi mx):=by
 unfold Instr.slice
 try dsimp only
 repeat' (first|exact trivial|exact aL _|exact au _|exact aN _|exact bn _|exact b8 _|exact dc _ _|exact bC _ _|exact bA _ _|exact aW _ _|exact aI _ _ _|exact bh _ _ _|exact br _|exact bZ _ _ _ _|exact bN _|exact cp _|exact bE _|exact cz _|exact b7 _|exact cD _|exact cj _ _ _|exact bR _|exact bD _|exact ns_bounds3 _ _ _ _ _ _|(refine ab ?_ fun _=>?_)|(refine bq ?_ ?_)|split|(dsimp only;done)|dsimp only)
theorem ns_sliceAt(t:TypeId)(x:Value)(lo hi mx:Option Value):NS P (Instr.sliceAt t x lo hi mx):=by
 unfold Instr.sliceAt
 try dsimp only
 repeat' (first|exact trivial|exact aL _|exact au _|exact aN _|exact bn _|exact b8 _|exact dc _ _|exact bC _ _|exact bA _ _|exact aW _ _|exact aI _ _ _|exact bh _ _ _|exact br _|exact bZ _ _ _ _|exact bN _|exact cp _|exact bE _|exact cz _|exact b7 _|exact cD _|exact cj _ _ _|exact bR _|exact bD _|exact ns_bounds3 _ _ _ _ _ _|exact ns_slice _ _ _ _ _|(refine ab ?_ fun _=>?_)|(refine bq ?_ ?_)|split|(dsimp only;done)|dsimp only)
theorem ns_unary(o:UnOp)(x:Value):NS P (Op.unary o x):=by
 unfold Op.unary Op.intArith Op.intBits
 try dsimp only
 repeat' (first|exact trivial|exact aL _|exact au _|exact aN _|exact bn _|exact b8 _|exact dc _ _|exact bC _ _|exact bA _ _|exact aW _ _|exact aI _ _ _|exact bh _ _ _|exact br _|exact bZ _ _ _ _|exact bN _|exact cp _|exact bE _|exact cz _|exact b7 _|exact cD _|exact cj _ _ _|exact bR _|exact bD _|(refine ab ?_ fun _=>?_)|(refine bq ?_ ?_)|split|(dsimp only;done)|dsimp only)
theorem ns_len(a:Array TypeId)(t:TypeId)(x:Array Value):NS P (Builtin.len_ a t x):=by
 unfold Builtin.len_
 try dsimp only
 repeat' (first|exact trivial|exact aL _|exact au _|exact aN _|exact bn _|exact b8 _|exact dc _ _|exact bC _ _|exact bA _ _|exact aW _ _|exact aI _ _ _|exact bh _ _ _|exact br _|exact bZ _ _ _ _|exact bN _|exact cp _|exact bE _|exact cz _|exact b7 _|exact cD _|exact cj _ _ _|exact bR _|exact bD _|exact dt _|(refine ab ?_ fun _=>?_)|(refine bq ?_ ?_)|split|(dsimp only;done)|dsimp only)
theorem ns_cap(a:Array TypeId)(t:TypeId)(x:Array Value):NS P (Builtin.cap_ a t x):=by
 unfold Builtin.cap_
 try dsimp only
 repeat' (first|exact trivial|exact aL _|exact au _|exact aN _|exact bn _|exact b8 _|exact dc _ _|exact bC _ _|exact bA _ _|exact aW _ _|exact aI _ _ _|exact bh _ _ _|exact br _|exact bZ _ _ _ _|exact bN _|exact cp _|exact bE _|exact cz _|exact b7 _|exact cD _|exact cj _ _ _|exact bR _|exact bD _|exact dt _|exact fe _ _ _|(refine ab ?_ fun _=>?_)|(refine bq ?_ ?_)|split|(dsimp only;done)|dsimp only)
theorem mq{α β:Type}{m:Sem α}{f:α→Sem β}(h:∀a,Dead (f a)):Dead (m.bind f):=fun P w r w' e=>by
 have e:(m >>= f).run P w=.ok r w':=e
 rw[Sem.run_bind] at e
 cases hm:m.run P w with
 | ok x w1=>rw[hm] at e;exact h x P w1 r w' e
 | halt x w1=>rw[hm] at e;cases e
theorem dead_unsup{α:Type}(u:Unsupported):Dead (unsupported u:Sem α):=fun _ _ _ _ e=>by cases e
theorem ns_lenOf(x:Value):NS P (Builtin.lenOf x):=by
 unfold Builtin.lenOf
 try dsimp only
 repeat' (first|exact trivial|exact aL _|exact au _|exact aN _|exact bn _|exact b8 _|exact dc _ _|exact bC _ _|exact bA _ _|exact aW _ _|exact aI _ _ _|exact bh _ _ _|exact br _|exact bZ _ _ _ _|exact bN _|exact cp _|exact bE _|exact cz _|exact b7 _|exact cD _|exact cj _ _ _|exact bR _|exact bD _|exact dt _|exact fe _ _ _|(refine ab ?_ fun _=>?_)|(refine bq ?_ ?_)|split|(dsimp only;done)|dsimp only)
theorem lL(s n:Nat)(x:Value):NS P (Builtin.firstCells s n x):=by
 unfold Builtin.firstCells
 try dsimp only
 repeat' (first|exact trivial|exact aL _|exact au _|exact aN _|exact bn _|exact b8 _|exact dc _ _|exact bC _ _|exact bA _ _|exact aW _ _|exact aI _ _ _|exact bh _ _ _|exact br _|exact bZ _ _ _ _|exact bN _|exact cp _|exact bE _|exact cz _|exact b7 _|exact cD _|exact cj _ _ _|exact bR _|exact bD _|exact dt _|exact fe _ _ _|(refine ab ?_ fun _=>?_)|(refine bq ?_ ?_)|split|(dsimp only;done)|dsimp only)
theorem ns_mayShare{α:Type}(size sLen n:Nat)(base:Option Addr)(x:Value){f:Bool→Sem α}(h:∀b,Dead (f b))(k:∀b,NS P (f b)):NS P (Builtin.mayShare size sLen n base x >>= f):=by
 unfold Builtin.mayShare
 cases base with
 | none=>
  cases x with
  | slice b l c=>
   cases b with
   | none=>exact k _
   | some b=>exact fun s=>mq h
  | _=>exact k _
 | some a=>exact fun s=>mq h
theorem ns_mark:NS P (mark .noRoom):=⟨rfl,trivial⟩
set_option maxHeartbeats 2000000 in
theorem ns_append(a:Array TypeId)(t:TypeId)(x:Array Value):NS P (Builtin.append_ a t x):=by
 unfold Builtin.append_
 try dsimp only
 repeat' (first|exact ns_mark|exact dead_unsup _|exact mq (fun _=>dead_unsup _)|exact trivial|exact aL _|exact au _|exact aN _|exact bn _|exact b8 _|exact dc _ _|exact bC _ _|exact bA _ _|exact aW _ _|exact aI _ _ _|exact bh _ _ _|exact br _|exact bZ _ _ _ _|exact bN _|exact cp _|exact bE _|exact cz _|exact b7 _|exact cD _|exact cj _ _ _|exact bR _|exact bD _|exact dt _|exact fe _ _ _|exact ns_lenOf _|exact lL _ _ _|(refine ns_mayShare _ _ _ _ _ (fun b=>?_) (fun b=>?_))|(refine ab ?_ fun _=>?_)|(refine bq ?_ ?_)|split|(dsimp only;done)|dsimp only)
theorem ns_copy(a:Array TypeId)(t:TypeId)(x:Array Value):NS P (Builtin.copy_ a t x):=by
 unfold Builtin.copy_
 try dsimp only
 repeat' (first|exact trivial|exact aL _|exact au _|exact aN _|exact bn _|exact b8 _|exact dc _ _|exact bC _ _|exact bA _ _|exact aW _ _|exact aI _ _ _|exact bh _ _ _|exact br _|exact bZ _ _ _ _|exact bN _|exact cp _|exact bE _|exact cz _|exact b7 _|exact cD _|exact cj _ _ _|exact bR _|exact bD _|exact dt _|exact fe _ _ _|exact ns_lenOf _|exact lL _ _ _|(refine ab ?_ fun _=>?_)|(refine bq ?_ ?_)|split|(dsimp only;done)|dsimp only)
theorem ns_clear(a:Array TypeId)(t:TypeId)(x:Array Value):NS P (Builtin.clear_ a t x):=by
 unfold Builtin.clear_
 try dsimp only
 repeat' (first|exact trivial|exact aL _|exact au _|exact aN _|exact bn _|exact b8 _|exact dc _ _|exact bC _ _|exact bA _ _|exact aW _ _|exact aI _ _ _|exact bh _ _ _|exact br _|exact bZ _ _ _ _|exact bN _|exact cp _|exact bE _|exact cz _|exact b7 _|exact cD _|exact cj _ _ _|exact bR _|exact bD _|exact dt _|exact fe _ _ _|(refine ab ?_ fun _=>?_)|(refine bq ?_ ?_)|split|(dsimp only;done)|dsimp only)
end
section
variable {P:Program}
def flat1:Value→Prop
 | .int _ _=>True
 | .bool _=>True
 | _=>False
def oK:Value→Prop
 | .int _ _=>True
 | .bool _=>True
 | .agg cs=>∀c∈cs,flat1 c
 | _=>False
theorem flat1.a{v:Value}(h:flat1 v):oK v:=by cases v<;>first|trivial|exact h.elim
theorem gM{α:Type}{t:TypeId}{cs:Array Value}{off:Nat}(hc:∀c∈cs,flat1 c){f:Value→Sem α}(k:∀r,oK r→NS P (f r)):NS P (part t cs off >>= f):=by
 unfold part
 rw[bind_assoc]
 refine ab (b8 t) fun b=>?_
 cases b with
 | true=>
  simp only[if_true,bind_assoc,pure_bind]
  refine ab (bn t) fun n=>k _ fun c h=>?_
  rw[Array.mem_iff_getElem?] at h
  obtain⟨i,hi⟩:=h
  rw[Array.getElem?_extract] at hi
  split at hi
  ·exact hc c (Array.mem_of_getElem? hi)
  ·cases hi
 | false=>
  simp only[Bool.false_eq_true,if_false]
  cases h:cs[off]? with
  | none=>trivial
  | some v=>exact k v (hc v (Array.mem_of_getElem? h)).a
theorem kg:∀(d:Nat)(t:TypeId)(x y:Value),oK x→oK y→NS P (Op.equalIn d t x y)
 | 0,_,_,_,_,_=>trivial
 | d+1,t,x,y,hx,hy=>by
  unfold Op.equalIn
  refine ab (au t) fun dsc=>?_
  cases x with
  | int k n=>cases y<;>first|exact hy.elim|(cases dsc<;>first|trivial|(refine bq ?_ ?_<;>trivial))
  | bool b=>cases y<;>first|exact hy.elim|(cases dsc<;>trivial)
  | agg xs=>
   cases y with
   | agg ys=>
    cases dsc with
    | struct fields=>
     refine fX ?_
     refine bq (by trivial) ?_
     refine ab (ns_forA (fun f s=>?_) _ _) fun⟨s,u⟩=>?_
     ·refine bq (gM hx fun p hp=>gM hy fun q hq=>ab (kg d _ p q hp hq) fun b=>bq (by trivial) (by trivial)) (by trivial)
     ·cases s<;>trivial
    | array len elem=>
     refine ab (bn elem) fun n=>?_
     simp only[Std.Legacy.Range.forIn_eq_forIn_range']
     refine ab (mJ (fun i s=>?_) _ _) fun⟨s,u⟩=>?_
     ·exact gM hx fun p hp=>gM hy fun q hq=>ab (kg d _ p q hp hq) fun b=>bq (by trivial) (by trivial)
     ·cases s<;>trivial
    | _=>trivial
   | _=>first|exact hy.elim|(cases dsc<;>trivial)
  | _=>exact hx.elim
theorem mK(d:Nat)(t:TypeId)(x:Value):NS P (Op.equalIn d t x (.pointer none)):=by
 cases d with
 | zero=>trivial
 | succ d=>
  unfold Op.equalIn
  refine ab (au t) fun dsc=>?_
  cases dsc<;>cases x<;>first|trivial|(rename_i a;cases a<;>trivial)|(rename_i a _ _;cases a<;>trivial)
theorem ns_und{α:Type}{t:TypeId}{d:TypeDesc}{f:TypeDesc→Sem α}(hu:P.underlying t=some d)(h:NS P (f d)):NS P (underlying t >>= f):=by
 have e:(underlying t >>= f)=Sem.program fun p=>(match p.underlying t with|some d=>pure d|none=>stuck "no such type") >>= f:=rfl
 rw[e]
 show NS P ((match P.underlying t with|some d=>pure d|none=>stuck "no such type") >>= f)
 rw[hu]
 exact h
theorem ns_size{α:Type}{t:TypeId}{i:TypeInfo}{f:Nat→Sem α}(hi:P.info? t=some i)(h:NS P (f i.size)):NS P (sizeOf t >>= f):=by
 have e:(sizeOf t >>= f)=Sem.program fun p=>((match p.info? t with|some i=>pure i|none=>stuck "no such type") >>= fun i=>pure i.size) >>= f:=rfl
 rw[e]
 show NS P (((match P.info? t with|some i=>pure i|none=>stuck "no such type") >>= fun i=>pure i.size) >>= f)
 rw[hi]
 exact h
theorem ns_fieldAt{s:TypeId}{v:Value}{k:Nat}{fs:Array Field}{f:Field}{i:TypeInfo}(hu:P.underlying s=some (.struct fs))(hf:fs[k]? = some f)(hi:P.info? f.type=some i)(hz:i.size≠0):NS P (Instr.fieldAt s v k):=by
 unfold Instr.fieldAt
 refine ns_und hu ?_
 simp only[hf]
 refine ab (cD v) fun a=>ab ?_ fun _=>trivial
 unfold fieldPlace
 refine ns_size hi ?_
 rw[if_neg hz]
 trivial
theorem oC(t:TypeId):NS P (Instr.makeMap t none):=⟨trivial,fun _=>trivial⟩
theorem ns_equal_int(d:Nat)(t:TypeId)(k:IntKind)(n:Int)(y:Value):NS P (Op.equalIn d t (.int k n) y):=by
 cases d with
 | zero=>trivial
 | succ d=>
  unfold Op.equalIn
  refine ab (au t) fun dsc=>?_
  split<;>first|trivial|(refine bq ?_ ?_<;>trivial)|(rename_i h _;cases h)|skip
theorem er(e:Bool):∀(d:Nat)(t:TypeId)(v:Value),NS P (Instr.checkKey e d t v)
 | 0,_,_=>trivial
 | d+1,t,v=>by
  unfold Instr.checkKey
  refine ab (au t) fun dsc=>?_
  split
  ·refine ab (aN _) fun i=>?_
   have hs:∀t,NS P (typeStr t):=fun t=>ab (aN t) fun i=>bq (by trivial) (by trivial)
   refine bq ?_ (er e d _ _)
   refine bq (ab (br _) fun _=>ab (hs _) fun _=>ab (br _) fun _=>er e d _ _) (ab (hs _) fun _=>ab (br _) fun _=>er e d _ _)
  ·simp only[Std.Legacy.Range.forIn_eq_forIn_range']
   refine ab (mJ (fun i s=>?_) _ _) fun _=>by trivial
   exact ab (bn _) fun n=>ab (cj _ _ _) fun p=>ab (er e d _ p) fun _=>by trivial
  ·refine ab (ns_forA (fun f s=>?_) _ _) fun _=>by trivial
   exact bq (ab (cj _ _ _) fun p=>ab (er e d _ p) fun _=>by trivial) (by trivial)
  all_goals trivial
theorem lO(t:TypeId)(k:IntKind)(n:Int):∀(l:List MapEntry)(i:Nat),NS P (Instr.findAsking t (.int k n) l i)
 | [],_=>trivial
 | e::r,i=>ab (ns_equal_int _ _ _ _ _) fun b=>bq (by trivial) (lO t k n r (i+1))
theorem ns_findKey(t:TypeId)(k:IntKind)(n:Int)(l:List MapEntry):NS P (Instr.findKey t (.int k n) l):=by
 unfold Instr.findKey
 refine ab (au t) fun d=>?_
 split
 ·trivial
 ·exact lO _ _ _ _ _
theorem ns_lookup(t:TypeId)(x:Value)(k:IntKind)(n:Int)(ok:Bool):NS P (Instr.lookup t x (.int k n) ok):=by
 unfold Instr.lookup
 refine ab (au t) fun d=>?_
 split
 ·have rest:∀es key elem,NS P (do
    Instr.checkKey (Array.isEmpty es) 10000 key (.int k n)
    let (v,okk) ←match ←Instr.findKey key (.int k n) (Array.toList es) with
     | some (_,v)=>pure (v,true)
     | none=>pure (←zeroValue elem,false)
    pure (if ok then .tuple #[v,.bool okk] else v):Sem Value):=fun es key elem=>by
   refine ab (er _ _ _ _) fun _=>ab (ns_findKey _ _ _ _) fun r=>?_
   cases ok<;>cases r<;>first|trivial|exact ab (aL _) fun _=>trivial
  cases x with
  | map r=>
   cases r with
   | none=>exact rest #[] _ _
   | some r=>
    refine ab (dt r) fun o=>?_
    cases o<;>first|exact rest _ _ _|trivial
  | _=>trivial
 ·trivial
theorem ns_mapUpdate(t:TypeId)(m:Value)(k:IntKind)(n:Int)(v:Value):NS P (Instr.mapUpdate t m (.int k n) v):=by
 unfold Instr.mapUpdate
 refine ab (au t) fun d=>?_
 split
 ·cases m with
  | map r=>
   cases r with
   | none=>exact br _
   | some r=>
    refine ab (dt r) fun o=>?_
    split
    ·refine ab (er _ _ _ _) fun _=>ab (ns_findKey _ _ _ _) fun r=>?_
     split
     ·refine ab ?_ fun _=>fe _ _ _
      unfold Instr.keyThatStays
      exact bq (by trivial) (ab (bD _) fun _=>by trivial)
     ·exact fe _ _ _
    ·trivial
  | _=>trivial
 ·trivial
theorem ns_slice_nil(d:Nat)(t:TypeId)(a:Option Addr)(l c:Nat):NS P (Op.equalIn d t (.slice a l c) (.slice none 0 0)):=by
 cases d with
 | zero=>trivial
 | succ d=>
  unfold Op.equalIn
  refine ab (au t) fun dsc=>?_
  cases dsc<;>cases a<;>trivial
theorem ns_max2(x y:Value):NS P (Builtin.max2 x y):=by
 unfold Builtin.max2
 repeat' (first|trivial|exact ab (bD _) fun _=>trivial|exact ab (ns_stringOp _ _ _) fun _=>ab (bE _) fun _=>trivial|exact ab (ab (ns_stringOp _ _ _) fun _=>bE _) fun _=>trivial|split)
theorem ns_min2(x y:Value):NS P (Builtin.min2 x y):=by
 unfold Builtin.min2
 repeat' (first|trivial|exact ab (bD _) fun _=>trivial|exact ab (ns_stringOp _ _ _) fun _=>ab (bE _) fun _=>trivial|exact ab (ab (ns_stringOp _ _ _) fun _=>bE _) fun _=>trivial|split)
theorem ns_foldl{f:Value→Value→Sem Value}(h:∀x y,NS P (f x y)):∀(l:List Value)(x:Value),NS P (l.foldlM f x)
 | [],x=>by rw[List.foldlM_nil];trivial
 | y::r,x=>by rw[List.foldlM_cons];exact ab (h x y) fun z=>ns_foldl h r z
theorem ns_max(a:Array TypeId)(t:TypeId)(x:Array Value):NS P (Builtin.max_ a t x):=by
 unfold Builtin.max_
 split
 ·trivial
 ·exact ns_foldl ns_max2 _ _
theorem ns_min(a:Array TypeId)(t:TypeId)(x:Array Value):NS P (Builtin.min_ a t x):=by
 unfold Builtin.min_
 split
 ·trivial
 ·exact ns_foldl ns_min2 _ _
theorem ns_convInt{src dst:TypeId}{k0 k:IntKind}{n:Int}(hd:P.underlying dst=some (.int k0)):NS P (convert src dst (.int k n)):=by
 unfold convert
 refine ab (au src) fun ds=>ns_und hd ?_
 cases ds<;>trivial
theorem iB{f:FuncId}{fn:Func}(hf:P.funcs[f]? = some fn)(hb:fn.body.isSome=true)(args:Array Value):NS P (callFunc f args):=by
 unfold callFunc
 refine fX ?_
 rw[hf]
 have hb':fn.body.isNone=false:=by cases h:fn.body<;>simp_all
 simp only[hb']
 refine bq (by trivial) ?_
 trivial
theorem mL{a:Act}{f:FuncId}{c:Call}{dst:Option Tmp}{ty:TypeId}{pos:String}{after:Array Edge}{guard:Option (Nat×Bool)}{x:Operand}{first captured:Array Value}(hc:c.callee=.value x)(hx:a.eval x=.func (.func f) first captured)(hn:∀args,NS P (callFunc f args)) :
  NS P (execOp a.eval ⟨dst,.call c,ty,pos,after,guard⟩):=by
 simp only[execOp,resolve,hc,hx,Deferred.ofValue]
 exact hn _
theorem gN:∀(d:Nat)(t:TypeId)(x y:Value),NS P (Op.eqGuardIn d t x y)
 | 0,_,_,_=>trivial
 | d+1,t,x,y=>by
  unfold Op.eqGuardIn
  refine ab (au t) fun dsc=>?_
  split
  ·trivial
  ·refine ab (ns_forA (fun f s=>?_) _ _) fun⟨s,u⟩=>?_
   ·refine bq (ab (cj _ _ _) fun p=>ab (cj _ _ _) fun q=>ab (gN d _ p q) fun b=>bq (by trivial) (by trivial)) (by trivial)
   ·cases s<;>trivial
  ·refine ab (bn _) fun n=>?_
   simp only[Std.Legacy.Range.forIn_eq_forIn_range']
   refine ab (mJ (fun i s=>?_) _ _) fun⟨s,u⟩=>?_
   ·exact ab (cj _ _ _) fun p=>ab (cj _ _ _) fun q=>ab (gN d _ p q) fun b=>bq (by trivial) (by trivial)
   ·cases s<;>trivial
  ·trivial
theorem mg(o:BinOp)(t:TypeId)(x y:Operand)(a b:Value):NS P (eqGuard o t x y a b):=by
 unfold eqGuard
 refine bq (by trivial) ?_
 split
 ·refine bq (by trivial) (ab (gN _ _ _ _) fun b=>bq (by trivial) (by trivial))
 ·refine fX (fX ?_)
  refine bq (by trivial) (ab (gN _ _ _ _) fun b=>bq (by trivial) (by trivial))
 ·trivial
theorem nG(o:BinOp)(t:TypeId)(k k':IntKind)(a b:Int):NS P (binOp o t (.int k a) (.int k' b)):=by
 cases o<;>simp only[binOp]<;>first
  | (unfold Op.shift;exact bq (br _) trivial)
  | (refine bq trivial ?_;first|trivial|(unfold Op.intDiv;exact bq (br _) trivial))
theorem mh{o:BinOp}{t:TypeId}{x y:Value}(ho:o=.eql∨o=.neq)(hx:oK x)(hy:oK y):NS P (binOp o t x y):=by
 cases x with
 | int k a=>cases y with
  | int k' b=>exact nG _ _ _ _ _ _
  | _=>rcases ho with rfl|rfl<;>first|exact hy.elim|exact ab (kg _ _ _ _ hx hy) fun _=>trivial
 | bool b=>rcases ho with rfl|rfl<;>exact ab (kg _ _ _ _ hx hy) fun _=>trivial
 | agg cs=>rcases ho with rfl|rfl<;>exact ab (kg _ _ _ _ hx hy) fun _=>trivial
 | _=>exact hx.elim
end
end Go.Proofs.YtgigkennhdolpaaGreatDoor
