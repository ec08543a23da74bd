/- Company, 2: rules for code that is walked in company: each step whatever foreign blocks have come, whatever has been drawn. -/
import Derived.Test.YtgigkennhdolpaaGreatDoorM2
import Derived.Conc.Own3
import Derived.Conc.Own4
import Derived.Conc.Own5
import Derived.Orders
import Derived.Tactics
import Derived.Conc.Beside
namespace Go.Proofs.YtgigkennhdolpaaGreatDoor
open Go.Conc
structure Rv (W W1:World):Prop where
 os:W1.os=W.os
 tape:W1.tape=W.tape
 output:W1.output=W.output
 heap:∀(b:Nat) (o:Obj),W.heap[b]? = some o→W1.heap[b]? = some o
theorem Rv.refl(W:World):Rv W W:=⟨rfl,rfl,rfl,fun _ _ h=>h⟩
theorem Rv.trans{W W1 W2:World}(h:Rv W W1)(k:Rv W1 W2):Rv W W2:=⟨k.os.trans h.os,k.tape.trans h.tape,k.output.trans h.output,fun b o e=>k.heap b o (h.heap b o e)⟩
theorem Rv.size{W W1:World}(h:Rv W W1):W.heap.size≤W1.heap.size:=by
 rcases Nat.eq_zero_or_pos W.heap.size with e|e
 ·omega
 ·have h1:W.heap[W.heap.size-1]? = some (W.heap[W.heap.size-1]'(by omega)):=Array.getElem?_eq_getElem (by omega)
  have:=(Array.getElem?_eq_some_iff.1 (h.heap _ _ h1)).1
  omega
theorem Rv.same{W W1:World}(h:Rv W W1){b:Nat}(hb:b<W.heap.size):W1.heap[b]? = W.heap[b]?:=by
 have h1:W.heap[b]? = some (W.heap[b]'hb):=Array.getElem?_eq_getElem hb
 rw[h1]
 exact h.heap _ _ h1
def StepV(P:Program)(g:Goroutine)(W:World)(g':Goroutine)(W':World):Prop:=
 ∀(main:Bool) (S R:Nat→Prop) (w:World),View S R w W→∃w' es,stepG P main g w=.go g' w' es∧View S R w' W'∧dS S R w w'∧∀e∈es,EvS S R w'.heap.size e
def Ends(P:Program)(Φ:Value→World→Prop)(m:Machine)(t:Trace):Prop:=
 ∃M last o w' t',runNT P (M+1) m t=(.ended o w',t')∧runN P M m=.next last∧step P last=.ended o w'∧Conc.Good P Φ last o w' t'
structure Beside (P:Program) (S:Nat→Prop) (gs:Array Goroutine) (w:World) (t:Trace):Prop where
 old:∃q,Leavers P t gs q
 past:∃Shun,Past Shun w.heap.size t∧∀l,Shun l→∃a:Addr,l=.cell a∧S a.block
 quiet:∀(k:Nat) (a:Addr),t.act? k≠some (.mark (.release a))
def Er(P:Program)(Φ:Value→World→Prop)(w00:World)(S0:Nat→Prop)(g:Goroutine)(W:World):Prop:=
 ∀W1,Rv W W1→w00.heap.size≤W1.heap.size→∀(S:Nat→Prop) (w:World) (gs:Array Goroutine) (sl:Option (Nat×Nat)) (t:Trace),View S (fun _=>False) w W1→((∀b:Nat,S0 b→S b∧w.heap[b]? = w00.heap[b]?)∧∀b:Nat,S b→S0 b∨w00.heap.size≤b)→gs[0]? = some g→Beside P S gs w t→Ends P Φ (crowd gs w sl) t
theorem Er.grown{P:Program}{Φ:Value→World→Prop}{w00:World}{S0:Nat→Prop}{g:Goroutine}{W:World}(h:∀W1,Rv W W1→w00.heap.size≤W1.heap.size→Er P Φ w00 S0 g W1):Er P Φ w00 S0 g W:=fun W1 r hz=>h W1 r hz W1 (Rv.refl W1) hz
def ParC(P:Program)(f:FuncId)(args:Array Value)(W:World)(R:Ending→World→Prop):Prop:=
 ∀Φ w00 S0 cs,(∀e w' fr,R e w'→fr.fn=f→fr.leaving P w' e→Er P Φ w00 S0 (G fr cs) w')→Er P Φ w00 S0 (G (Frame.enter P f args .normal) cs) W
structure Closed (P:Program) (co:Bool) (E:Goroutine→World→Prop):Prop where
 mono:∀{g W W1},E g W→Rv W W1→E g W1
 step:∀{g W},g.status=.running→(∀W1,Rv W W1→∃g' W',StepV P g W1 g' W'∧E g' W')→E g W
 par:co=true→∀f args W R,ParC P f args W R→∀cs,(∀e w' fr,R e w'→fr.fn=f→fr.leaving P w' e→E (G fr cs) w')→E (G (Frame.enter P f args .normal) cs) W
theorem Closed.weak{P:Program}{co:Bool}{E:Goroutine→World→Prop}(h:Closed P co E):Closed P false E:=⟨h.mono,h.step,fun e=>by cases e⟩
section
variable {P:Program}{co:Bool}{E:Goroutine→World→Prop}
theorem Closed.cw(hE:Closed P co E){g g':Goroutine}{W:World}(hs:g.status=.running)(h:∀main w,stepG P main g w=.go g' w #[])(k:E g' W):E g W:=
 hE.step hs fun W1 h1=>⟨g',W1,fun main S R w hv=>⟨w,#[],h main w,hv,dS.refl _ _ _,fun e he=>by simp at he⟩,hE.mono k h1⟩
end
def LO(P:Program){α:Type} : Sem α→Prop
 | .pure _=>True
 | .load _ _ k=>∀v,LO P (k v)
 | .program k=>LO P (k P)
 | .halt _=>True
 | _=>False
theorem LO.bind{P:Program}{α β:Type} : ∀{m:Sem α}{f:α→Sem β},LO P m→(∀a,LO P (f a))→LO P (m.bind f):=by
 intro m
 induction m with
 | pure a=>exact fun _ h=>h a
 | load md a k ih=>exact fun h hf v=>ih v (h v) hf
 | program k ih=>exact fun h hf=>ih P h hf
 | halt h=>exact fun _ _=>trivial
 | _=>exact fun h _=>h.elim
theorem LO.ns{P:Program}{α:Type} : ∀{m:Sem α},LO P m→NS P m:=by
 intro m
 induction m with
 | pure a=>exact fun _=>trivial
 | load md a k ih=>exact fun h v=>ih v (h v)
 | program k ih=>exact fun h=>ih P h
 | halt h=>exact fun _=>trivial
 | _=>exact fun h=>h.elim
theorem lo_view{P:Program}{S R:Nat→Prop}{w W W1:World}(hr:Rv W W1)(hv:View S R w W1){α:Type} : ∀{m:Sem α}{r:α}{W':World},LO P m→m.run P W=.ok r W'→m.run P W1=.ok r W1:=by
 intro m
 induction m with
 | pure a=>
  intro r W' _ e
  simp only[Sem.run,Result.ok.injEq] at e ⊢
  exact⟨e.1,trivial⟩
 | load md a k ih=>
  intro r W' h e
  simp only[Sem.run] at e ⊢
  cases hc:W.cell? a with
  | some v=>
   rw[hc] at e
   have hc1:W1.cell? a=some v:=by
    unfold World.cell? at hc ⊢
    cases hb:W.heap[a.block]? with
    | none=>rw[hb] at hc;cases hc
    | some o=>rw[hr.heap _ _ hb];rw[hb] at hc;exact hc
   rw[hc1]
   exact ih v (h v) e
  | none=>
   rw[hc] at e
   exfalso
   have hx:∃x,W.farLoad P a (md==.atomic)=.error x:=by
    unfold World.farLoad
    split
    ·rename_i b u hb
     exact(hv.plain _ _ (hr.heap _ _ hb)).elim
    ·exact⟨_,rfl⟩
   obtain⟨x,hx⟩:=hx
   rw[hx] at e
   cases e
 | program k ih=>exact fun h e=>ih P h e
 | halt h=>intro r W' _ e;cases e
 | _=>exact fun h _=>h.elim
theorem lo_asAddr{P:Program}(v:Value):LO P (asAddr v):=by
 unfold asAddr
 split<;>trivial
theorem kl{P:Program}(a:Addr):∀(n i:Nat)(acc:Array Value),LO P (loadCellsFrom a i n acc)
 | 0,_,_=>trivial
 | n+1,i,acc=>fun v=>kl a n (i+1) (acc.push v)
theorem oF{P:Program}(t:TypeId):LO P (typeInfo t):=by
 show LO P (match P.info? t with|some i=>pure i|none=>stuck "no such type")
 split<;>trivial
theorem lo_program{P:Program}{α:Type}{f:Program→Sem α}(h:LO P (f P)):LO P (program >>= f):=h
theorem lo_sizeOf{P:Program}(t:TypeId):LO P (sizeOf t):=LO.bind (oF t) fun _=>trivial
theorem lo_isAgg{P:Program}(t:TypeId):LO P (isAgg t):=by
 unfold isAgg
 exact LO.bind (by unfold underlying;first|exact lo_program trivial|(refine lo_program ?_;split<;>trivial)) fun a=>by cases a<;>trivial
theorem lo_loadVar{P:Program}(t:TypeId)(a:Addr):LO P (loadVar t a):=by
 unfold loadVar
 refine LO.bind (lo_isAgg t) fun b=>?_
 cases b with
 | true=>exact LO.bind (lo_sizeOf t) fun n=>LO.bind (kl a n 0 #[]) fun _=>trivial
 | false=>exact fun _=>trivial
def resOneJ(tmps:Array Value):ResultVar→Sem Value
 | .tmp t=>pure (tmps.getD t undef)
 | .cell a t=>do loadVar t (←asAddr (tmps.getD a undef))
theorem lo_mapM{P:Program}{α β:Type}{f:α→Sem β}(h:∀x,LO P (f x)):∀(l:List α),LO P (l.mapM f)
 | []=>trivial
 | x::r=>by
  rw[List.mapM_cons]
  exact LO.bind (h x) fun y=>LO.bind (lo_mapM h r) fun _=>trivial
theorem eX{P:Program}(fn:Func)(tmps:Array Value):LO P (results fn tmps):=by
 have e:results fn tmps=(fn.results.mapM (resOneJ tmps) >>= fun vs=>pure (if h:vs.size=1 then vs[0] else .tuple vs)):=rfl
 rw[e,Array.mapM_eq_mapM_toList]
 refine LO.bind ?_ fun _=>trivial
 rw[map_eq_pure_bind]
 refine LO.bind (lo_mapM (fun x=>?_) _) fun _=>trivial
 cases x with
 | tmp t=>trivial
 | cell a t=>exact LO.bind (lo_asAddr _) fun b=>lo_loadVar t b
def bP(P:Program)(co:Bool)(f:FuncId)(args:Array Value)(W:World)(R:Ending→World→Prop):Prop:=
 ∀E,Closed P co E→∀cs,(∀e w' fr,R e w'→fr.fn=f→fr.leaving P w' e→E (G fr cs) w')→E (G (Frame.enter P f args .normal) cs) W
theorem bP.lift{P:Program}{co:Bool}{f:FuncId}{args:Array Value}{W:World}{R:Ending→World→Prop}(h:bP P false f args W R):bP P co f args W R:=fun E hE cs hc=>h E hE.weak cs hc
theorem calls_par{P:Program}{f:FuncId}{args:Array Value}{W:World}{R:Ending→World→Prop}(h:ParC P f args W R):bP P true f args W R:=fun E hE cs hc=>hE.par rfl f args W R h cs hc
theorem bP.mono{P:Program}{co:Bool}{f:FuncId}{args:Array Value}{W:World}{R R':Ending→World→Prop}(h:bP P co f args W R)(k:∀e w,R e w→R' e w):bP P co f args W R':=
 fun E hE cs hc=>h E hE cs fun e w' fr hr=>hc e w' fr (k e w' hr)
def uponJ(P:Program)(co:Bool)(o:Oper)(a:Act)(next:Act→World→Prop):Result Next→Prop
 | .ok (.value v) w'=>next (a.put o.dst v) w'
 | .ok .skip w'=>next (a.put o.dst undef) w'
 | .ok (.enter f args) w'=>bP P co f args w' fun
   | .returned v,w''=>next (a.put o.dst v) w''
   | _,_=>False
 | _=>False
def dC(P:Program)(co:Bool)(o:Oper)(a:Act)(w:World)(next:Act→World→Prop):Prop:=uponJ P co o a next ((execOp a.eval o).run P w)
def OpJ(P:Program)(co:Bool)(o:Oper)(a:Act)(w:World)(next:Act→World→Prop):Prop:=NS P (execOp a.eval o)∧∀W1,Rv w W1→dC P co o a W1 next
def ArrJ(E:Goroutine→World→Prop)(b:Frame)(k:List Item)(cs:List Frame):Exit→Act→World→Prop
 | .normal,a,w=>E (G (b.at a k) cs) w
 | .exit id,a,w=>∃k',exitTo id k=some k'∧E (G (b.at a k') cs) w
 | .ret,a,w=>∀todo,E (G {b.at a todo with mode:=.returning} cs) w
 | _,_,_=>True
def okEx:Exit→Prop
 | .normal|.exit _|.ret=>True
 | _=>False
def wpJ(P:Program)(co:Bool)(c:Code)(Q:Exit→Act→World→Prop)(a:Act)(W:World):Prop:=
 ∀E,Closed P co E→∀(b:Frame) (k:List Item) (cs:List Frame),b.kind≠.early→b.roundOf=none→(∀e a' w',Q e a' w'→okEx e∧ArrJ E b k cs e a' w')→E (G (b.at a (.code c::k)) cs) W
section
variable {P:Program}{co:Bool}{Q Q':Exit→Act→World→Prop}{a:Act}{W:World}
theorem uponJ_mono{o:Oper}{K K':Act→World→Prop}(h:∀a w,K a w→K' a w){r:Result Next}(k:uponJ P co o a K r):uponJ P co o a K' r:=by
 unfold uponJ at *
 split at k
 ·exact h _ _ k
 ·exact h _ _ k
 ·exact bP.mono k fun e w he=>by
   cases e with
   | returned v=>exact h _ _ he
   | panicked c=>exact he.elim
   | outgrown=>exact he.elim
 ·exact k.elim
theorem OpJ.mono{o:Oper}{K K':Act→World→Prop}(h:∀a w,K a w→K' a w)(k:OpJ P co o a W K):OpJ P co o a W K':=⟨k.1,fun W1 h1=>uponJ_mono h (k.2 W1 h1)⟩
theorem jX{c:Code}(h:wpJ P co c Q a W)(k:∀e a w,Q e a w→Q' e a w):wpJ P co c Q' a W:=fun E hE b t cs h1 h2 h3=>h E hE b t cs h1 h2 fun e a' w' hq=>h3 e a' w' (k e a' w' hq)
theorem op_step{E:Goroutine→World→Prop}(hE:Closed P co E){b:Frame}{k:List Item}{cs:List Frame}(hk:b.kind≠.early){ops:Array Oper}{i:Nat}{rest:List Nat}{o:Oper}(ho:ops[i]? = some o)(hw:Region.wanted o (yielded ops a.tmps)=true)
  {K:Act→World→Prop} (h:OpJ P co o a W K) (hK:∀a' w',K a' w'→E (G (b.at a' (.inRegion ops rest::k)) cs) w'):E (G (b.at a (.inRegion ops (i::rest)::k)) cs) W:=by
 refine hE.step rfl fun W1 h1=>?_
 have hu:=h.2 W1 h1
 unfold dC at hu
 cases hr:(execOp a.eval o).run P W1 with
 | halt x w'=>rw[hr] at hu;exact hu.elim
 | ok x w'=>
  rw[hr] at hu
  cases x with
  | value v=>
   refine⟨_,w',fun main S R w hv=>?_,hK _ _ hu⟩
   obtain⟨u,k1,k2,kk,k3⟩:=eh #[] h.1 hv hr
   refine⟨u,_,stepG_value ho hw hk k1,k2,kk,fun e he=>?_⟩
   rcases k3 e (mem_listed he) with q|q
   ·simp at q
   ·exact q
  | skip=>
   refine⟨_,w',fun main S R w hv=>?_,hK _ _ hu⟩
   obtain⟨u,k1,k2,kk,k3⟩:=eh #[] h.1 hv hr
   refine⟨u,_,stepG_none ho hw hk k1,k2,kk,fun e he=>?_⟩
   rcases k3 e (mem_listed he) with q|q
   ·simp at q
   ·exact q
  | enter f args=>
   refine⟨G (Frame.enter P f args .normal) (b.at a (.inRegion ops (i::rest)::k)::cs),w',fun main S R w hv=>?_,?_⟩
   ·obtain⟨u,k1,k2,kk,k3⟩:=eh #[] h.1 hv hr
    refine⟨u,_,stepG_enter ho hw hk k1,k2,kk,fun e he=>?_⟩
    rcases k3 e (mem_listed he) with q|q
    ·simp at q
    ·exact q
   ·have hu:bP P co f args w' _:=hu
    refine hu E hE _ fun e w2 fr hR _ hl=>?_
    cases e with
    | panicked c=>exact hR.elim
    | outgrown=>exact hR.elim
    | returned v=>
     have hR:K (a.put o.dst v) w2:=hR
     obtain⟨l1,l2,l3,fn,l4,l5⟩:=hl
     refine hE.step rfl fun W3 h3=>⟨G (b.at (a.put o.dst v) (.inRegion ops rest::k)) cs,W3,fun main S R w hv=>?_,hE.mono (hK _ _ hR) h3⟩
     have e1:=lo_view h3 hv (eX fn fr.tmps) l5
     obtain⟨u,k1,k2,kk,k3⟩:=eh #[] (eX fn fr.tmps).ns hv e1
     refine⟨u,seen P fr.fn ((results fn fr.tmps).events P w #[]),?_,k2,kk,fun e he=>?_⟩
     ·have hfin:(b.at a (.inRegion ops (i::rest)::k)).finish v=b.at (a.put o.dst v) (.inRegion ops rest::k):=by rw[Frame.finish_at,ho];rfl
      rw[←hfin]
      obtain⟨ffn,ftmps,ftodo,fdefers,fmode,fkind,fround⟩:=fr
      simp only at l1 l2 l3 l4 k1
      subst l1 l2 l3
      simp[G,stepG,unwind,doReturn,l4,k1,GStep.after]
     ·rcases k3 e (mem_seen he) with q|q
      ·simp at q
      ·exact q
  | _=>exact hu.elim
def eV(P:Program)(co:Bool)(ops:Array Oper)(Q:Exit→Act→World→Prop):List Nat→Act→World→Prop
 | [],a,w=>Q .normal a w
 | i::rest,a,w=>match ops[i]? with
  | none=>eV P co ops Q rest a w
  | some o=>if Region.wanted o (yielded ops a.tmps)=true then OpJ P co o a w (eV P co ops Q rest) else eV P co ops Q rest (a.put o.dst undef) w
def eU(P:Program)(co:Bool)(ops:Array Oper)(Q:Exit→Act→World→Prop):List Oper→Act→World→Prop
 | [],a,w=>Q .normal a w
 | o::rest,a,w=>if Region.wanted o (yielded ops a.tmps)=true then OpJ P co o a w (eU P co ops Q rest) else eU P co ops Q rest (a.put o.dst undef) w
def mz(P:Program)(co:Bool)(ops:Array Oper)(i:Nat)(K:Act→World→Prop)(a:Act)(w:World):Prop:=
 match ops[i]? with
 | none=>K a w
 | some o=>if Region.wanted o (yielded ops a.tmps)=true then OpJ P co o a w K else K (a.put o.dst undef) w
def lW(P:Program)(co:Bool)(md:Region.Mode)(ops:Array Oper)(Q:Exit→Act→World→Prop):Nat→Array Bool→Act→World→Prop
 | 0,listed,a,w=>Region.ready md ops listed=[]∧Q .normal a w
 | fuel+1,listed,a,w=>
  (Region.ready md ops listed=[]→Q .normal a w) ∧
  ∀i∈Region.ready md ops listed,mz P co ops i (lW P co md ops Q fuel (listed.setIfInBounds i true)) a w
theorem wpOpJ_mono{ops:Array Oper}{i:Nat}{K K':Act→World→Prop}(h:∀a w,K a w→K' a w)(k:mz P co ops i K a W):mz P co ops i K' a W:=by
 unfold mz at *
 split
 ·rename_i e;rw[e] at k;exact h _ _ k
 ·rename_i o e
  rw[e] at k
  simp only at k
  split
  ·rename_i hw;rw[if_pos hw] at k;exact k.mono h
  ·rename_i hw;rw[if_neg hw] at k;exact h _ _ k
theorem wpOpsJ_cons{ops:Array Oper}(i:Nat)(rest:List Nat)(a:Act)(w:World):eV P co ops Q (i::rest) a w=mz P co ops i (eV P co ops Q rest) a w:=by
 cases h:ops[i]?<;>simp[eV,mz,h]
theorem wpListJ_step{ops:Array Oper}{rest:List Oper}{o:Oper}(h:∀K:Act→World→Prop,(∀a w,eU P co ops Q rest a w→K a w)→if Region.wanted o (yielded ops a.tmps)=true then OpJ P co o a W K else K (a.put o.dst undef) W) :
  eU P co ops Q (o::rest) a W:=h _ fun _ _ h=>h
theorem oq{ops:Array Oper} : ∀(l:List Oper)(k:Nat),(∀j:Nat,l[j]? = ops[k+j]?)→∀a w,eU P co ops Q l a w→eV P co ops Q (List.range' k l.length) a w
 | [],_,_,_,_,h=>h
 | o::l,k,hk,a,w,h=>by
  have h0:ops[k]? = some o:=by simpa using (hk 0).symm
  have ih:=oq l (k+1) fun j=>by have:=hk (j+1);simpa[Nat.add_assoc,Nat.add_comm 1 j] using this
  rw[List.length_cons,List.range'_succ]
  simp only[eV,h0]
  simp only[eU] at h
  split
  ·rename_i hw;rw[if_pos hw] at h;exact h.mono fun a w h=>ih a w h
  ·rename_i hw;rw[if_neg hw] at h;exact ih _ _ h
theorem wpAnyJ_sound{md:Region.Mode}{ops:Array Oper} : ∀(fuel t:Nat)(listed:Array Bool)(a:Act)(w:World),lW P co md ops Q fuel listed a w→
  eV P co ops Q (Region.linearise.go md ops fuel t listed []) a w:=by
 intro fuel
 induction fuel with
 | zero=>intro t listed a w h;simpa[Region.linearise.go,eV] using h.2
 | succ fuel ih=>
  intro t listed a w h
  obtain⟨h₀,h₁⟩:=h
  simp only[Region.linearise.go]
  change eV P co ops Q (match (Region.ready md ops listed)[t%(Region.ready md ops listed).length]? with
   | some i=>Region.linearise.go md ops fuel (t/(Region.ready md ops listed).length) (listed.setIfInBounds i true) [i]
   | none=>[].reverse) a w
  cases hi:(Region.ready md ops listed)[t%(Region.ready md ops listed).length]? with
  | none=>
   have hnil:Region.ready md ops listed=[]:=by
    cases hr:Region.ready md ops listed with
    | nil=>rfl
    | cons x xs=>
     rw[hr] at hi
     have hlt:t%(x::xs).length<(x::xs).length:=Nat.mod_lt _ (by simp)
     simp at hi
     simp at hlt
     omega
   simpa[eV] using h₀ hnil
  | some i=>
   simp only[]
   rw[linearise_go_acc,List.reverse_singleton,List.singleton_append,wpOpsJ_cons]
   exact wpOpJ_mono (fun a w=>ih _ _ a w) (h₁ i (List.mem_of_getElem? hi))
theorem nD{E:Goroutine→World→Prop}(hE:Closed P co E){b:Frame}{k:List Item}{cs:List Frame}(hk:b.kind≠.early){ops:Array Oper}(hQ:∀a' w',Q .normal a' w'→E (G (b.at a' k) cs) w') :
  ∀(l:List Nat) (a:Act) (W:World),eV P co ops Q l a W→E (G (b.at a (.inRegion ops l::k)) cs) W
 | [],a,W,h=>hE.cw rfl (fun _ _=>stepG_region_end) (hQ a W h)
 | i::rest,a,W,h=>by
  have ih:=nD (ops:=ops) hE hk hQ rest
  cases ho:ops[i]? with
  | none=>
   simp only[eV,ho] at h
   refine hE.cw rfl (fun main w=>?_) (ih a W h)
   have hfin:(b.at a (.inRegion ops (i::rest)::k)).finish undef=b.at a (.inRegion ops rest::k):=by rw[Frame.finish_at,ho];rfl
   rw[←hfin]
   simp[G,stepG,stepG.exec,Frame.at,ho]
  | some o=>
  simp only[eV,ho] at h
  split at h
  ·rename_i hw
   exact op_step hE hk ho hw h fun a' w' h'=>ih a' w' h'
  ·rename_i hw
   exact hE.cw rfl (fun _ _=>stepG_unwanted ho (by simpa using hw)) (ih _ _ h)
theorem oU{id:Nat}{ops:Array Oper}(h:eU P co ops Q ops.toList a W):wpJ P co (.region id ops false) Q a W:=by
 intro E hE b k cs h1 h2 h3
 refine hE.cw rfl (fun _ _=>stepG_region) ?_
 have h:=oq ops.toList 0 (fun j=>by simp) a W h
 have e:List.range' 0 ops.toList.length=List.range ops.size:=by rw[List.range_eq_range'];simp
 rw[e] at h
 exact nD hE h1 (fun a' w' hq'=>(h3 _ _ _ hq').2) _ a W h
theorem View.drew{S R:Nat→Prop}{w W:World}(h:View S R w W):View S R w.drew W.drew:=h.draw
theorem Rv.drew(W:World):Rv W W.drew:=⟨rfl,rfl,rfl,fun _ _ h=>h⟩
theorem jW{id:Nat}{ops:Array Oper}(hm:P.follows .mixedOrders=true)(h:∀W1,Rv W W1→lW P co .any ops Q ops.size (Array.replicate ops.size false) a W1):wpJ P co (.region id ops true) Q a W:=by
 intro E hE b k cs h1 h2 h3
 refine hE.step rfl fun W1 r1=>?_
 obtain⟨t,ht⟩:∃t,t=(Question.order b.fn id).cut (W1.tape W1.drawn (.order b.fn id)):=⟨_,rfl⟩
 refine⟨G (b.at a (.inRegion ops (Region.schedule (P.follows .mixedOrders) ops t)::k)) cs,W1.drew,fun main S R w hv=>⟨w.drew,#[],?_,hv.drew,⟨Nat.le_refl _,fun _ _=>rfl,rfl,rfl,rfl⟩,fun e he=>by simp at he⟩,?_⟩
 ·have hc:(choose (.order b.fn id)).run P w=.ok t w.drew:=by
   rw[ht,←hv.tape,←hv.drawn]
   rfl
  simp[G,stepG,stepG.exec,Frame.at,hc]
 ·refine nD hE h1 (fun a' w' hq'=>(h3 _ _ _ hq').2) _ a _ ?_
  simp only[Region.schedule,hm,Bool.true_or,if_true]
  exact wpAnyJ_sound ops.size t _ a _ (h _ (r1.trans (Rv.drew W1)))
theorem wpJ_skip(h:Q .normal a W):wpJ P co .skip Q a W:=fun _ hE _ _ _ _ _ h3=>hE.cw rfl (fun _ _=>stepG_skip) (h3 _ _ _ h).2
theorem wpJ_seq{x y:Code}(h:wpJ P co x (Exit.then (wpJ P co y Q) Q) a W):wpJ P co (.seq x y) Q a W:=by
 intro E hE b k cs h1 h2 h3
 refine hE.cw rfl (fun _ _=>stepG_seq) (h E hE b (.code y::k) cs h1 h2 fun e a' w' hq=>?_)
 cases e with
 | normal=>exact⟨trivial,hq E hE b k cs h1 h2 h3⟩
 | exit id=>
  obtain⟨-,k',e1,e2⟩:=h3 (.exit id) _ _ hq
  exact⟨trivial,k',by simpa[exitTo] using e1,e2⟩
 | ret=>exact h3 .ret _ _ hq
 | goto l=>exact h3 (.goto l) _ _ hq
 | panic c=>exact h3 (.panic c) _ _ hq
 | outgrown=>exact h3 .outgrown _ _ hq
theorem mA{c:Operand}{x y:Code}{t:Bool}(hc:a.eval c=.bool t)(h:wpJ P co (if t then x else y) Q a W):wpJ P co (.cond c x y) Q a W:=
 fun E hE b k cs h1 h2 h3=>hE.cw rfl (fun _ _=>stepG_cond hc) (h E hE b k cs h1 h2 h3)
theorem lC{c:Operand}{x y:Code}(hc:a.eval c=.bool true)(h:wpJ P co x Q a W):wpJ P co (.cond c x y) Q a W:=mA hc h
theorem wpJ_cond_false{c:Operand}{x y:Code}(hc:a.eval c=.bool false)(h:wpJ P co y Q a W):wpJ P co (.cond c x y) Q a W:=mA hc h
theorem jY{c:Operand}{x y:Code}{t:Bool}(hc:a.eval c=.bool t)(h1:t=true→wpJ P co x Q a W)(h2:t=false→wpJ P co y Q a W):wpJ P co (.cond c x y) Q a W:=by
 cases t with
 | true=>exact mA hc (h1 rfl)
 | false=>exact mA hc (h2 rfl)
theorem wpJ_block{id:Nat}{c:Code}(h:wpJ P co c (Exit.inBlock id Q) a W):wpJ P co (.block id c) Q a W:=by
 intro E hE b k cs h1 h2 h3
 refine hE.cw rfl (fun _ _=>stepG_block) (h E hE b (.inBlock id::k) cs h1 h2 fun e a' w' hq=>?_)
 cases e with
 | normal=>exact⟨trivial,hE.cw rfl (fun _ _=>stepG_inBlock) (h3 .normal _ _ hq).2⟩
 | exit i=>
  have hq2:if i=id then Q .normal a' w' else Q (.exit i) a' w':=hq
  refine⟨trivial,?_⟩
  by_cases e:i=id
  ·rw[if_pos e] at hq2
   subst e
   exact⟨k,by simp[exitTo],(h3 .normal _ _ hq2).2⟩
  ·rw[if_neg e] at hq2
   obtain⟨-,k',e1,e2⟩:=h3 (.exit i) _ _ hq2
   exact⟨k',by simpa[exitTo,e,Ne.symm e] using e1,e2⟩
 | ret=>exact h3 .ret _ _ hq
 | goto l=>exact h3 (.goto l) _ _ hq
 | panic c=>exact h3 (.panic c) _ _ hq
 | outgrown=>exact h3 .outgrown _ _ hq
theorem wpJ_exit{id:Nat}(h:Q (.exit id) a W):wpJ P co (.exit id) Q a W:=fun E hE b k cs h1 h2 h3=>by
 obtain⟨-,k',e1,e2⟩:=h3 _ _ _ h
 exact hE.cw rfl (fun _ _=>stepG_exit e1) e2
theorem wpJ_ret(h:Q .ret a W):wpJ P co .ret Q a W:=fun E hE b k cs h1 h2 h3=>hE.cw rfl (fun main w=>by simp[G,stepG,stepG.exec,Frame.at,h2]) ((h3 .ret _ _ h).2 (.code .ret::k))
theorem wpJ_loop{c:Code}(I:Nat→Act→World→Prop)(n0:Nat)(h0:I n0 a W)(round:∀n a w,I n a w→wpJ P co c (Exit.then (fun a' w'=>∃m,m<n∧I m a' w') Q) a w):wpJ P co (.loop c) Q a W:=by
 intro E hE b k cs h1 h2 h3
 have key:∀n a w,I n a w→E (G (b.at a (.code c::.inLoop c::k)) cs) w:=by
  intro n
  induction n using Nat.strongRecOn with
  | _ n ih=>
   intro a w hI
   refine round n a w hI E hE b (.inLoop c::k) cs h1 h2 fun e a' w' hq=>?_
   cases e with
   | normal=>
    obtain⟨m,hm,hI'⟩:=hq
    exact⟨trivial,hE.cw rfl (fun _ _=>stepG_inLoop) (ih m hm a' w' hI')⟩
   | exit id=>
    obtain⟨-,k',e1,e2⟩:=h3 (.exit id) _ _ hq
    exact⟨trivial,k',by simpa[exitTo] using e1,e2⟩
   | ret=>exact h3 .ret _ _ hq
   | goto l=>exact h3 (.goto l) _ _ hq
   | panic c=>exact h3 (.panic c) _ _ hq
   | outgrown=>exact h3 .outgrown _ _ hq
 exact hE.cw rfl (fun _ _=>stepG_loop) (key n0 a W h0)
def bodyPostJ(P:Program)(co:Bool)(fn:Func)(R:Ending→World→Prop):Exit→Act→World→Prop
 | .normal,a,w|.ret,a,w=>a.defers=[]∧∃v,(results fn a.tmps).run P w=.ok v w∧R (.returned v) w
 | _,_,_=>False
theorem calls_of_wpJ{f:FuncId}{fn:Func}{c:Code}{args:Array Value}{R:Ending→World→Prop}(hf:P.funcs[f]? = some fn)(hb:fn.body=some c)
  (h:wpJ P co c (bodyPostJ P co fn R) {tmps:=args++Array.replicate (fn.ntmps-args.size) undef,defers:=[]} W):bP P co f args W R:=by
 intro E hE cs hc
 let b:Frame:={ (default:Frame) with fn:=f,kind:=.normal}
 have henter:Frame.enter P f args .normal=b.at {tmps:=args++Array.replicate (fn.ntmps-args.size) undef,defers:=[]} [.code c]:=by
  simp[Frame.enter,Frame.at,hf,hb,b]
 rw[henter]
 have hret:∀a' w' todo,(a'.defers=[]∧∃v,(results fn a'.tmps).run P w'=.ok v w'∧R (.returned v) w')→E (G {b.at a' todo with mode:=.returning} cs) w':=by
  rintro a' w' todo ⟨d,v,hv,hR⟩
  exact hc (.returned v) w' _ hR rfl ⟨rfl,d,rfl,fn,hf,hv⟩
 refine h E hE b [] cs (by simp[b]) rfl fun e a' w' hq=>?_
 cases e with
 | normal=>exact⟨trivial,hE.cw rfl (fun _ _=>stepG_end) (hret a' w' [] hq)⟩
 | ret=>exact⟨trivial,fun todo=>hret a' w' todo hq⟩
 | exit _=>exact hq.elim
 | goto _=>exact hq.elim
 | panic _=>exact hq.elim
 | outgrown=>exact hq.elim
theorem bK{o:Oper}{v:Value}{w:World}{K:Act→World→Prop}(e:(execOp a.eval o).run P w=.ok (.value v) w)(h:K (a.put o.dst v) w):dC P co o a w K:=by
 unfold dC;rw[e];exact h
theorem dX{o:Oper}{v:Value}{w w':World}{K:Act→World→Prop}(e:(execOp a.eval o).run P w=.ok (.value v) w')(h:K (a.put o.dst v) w'):dC P co o a w K:=by
 unfold dC;rw[e];exact h
end
end Go.Proofs.YtgigkennhdolpaaGreatDoor
