/- Company, 2: rules for code that is walked in company. -/
import Derived.Test.YtgigkennhdolpaaGreatDoorM1
import Derived.Conc.Own3
import Derived.Conc.Own4
import Derived.Conc.Own5
import Derived.Orders
import Derived.Tactics
import Derived.Conc.Beside
namespace Go.Proofs.YtgigkennhdolpaaGreatDoor
open Go.Conc
structure Rv (W W1:World):Prop where
 os:W1.os=W.os
 tape:W1.tape=W.tape
 output:W1.output=W.output
 heap:∀(b:Nat) (o:Obj),W.heap[b]? = some o->W1.heap[b]? = some o
theorem Rv.refl(W:World):Rv W W:=⟨rfl,rfl,rfl,λ_ _ h=>h⟩
theorem Rv.trans{W W1 W2:World}(h:Rv W W1)(k:Rv W1 W2):Rv W W2:=⟨k.os.trans h.os,k.tape.trans h.tape,k.output.trans h.output,λb o e=>k.heap b o (h.heap b o e)⟩
theorem Rv.size{W W1:World}(h:Rv W W1):W.heap.size<=W1.heap.size:=by rcases Nat.eq_zero_or_pos W.heap.size with e|e;omega;have h1:W.heap[W.heap.size-1]? = some (W.heap[W.heap.size-1]'(by omega)):=Uj (by omega);have:=(E'.1 (h.heap _ _ h1)).1;omega
theorem Rv.same{W W1:World}(h:Rv W W1){b:Nat}(hb:b<W.heap.size):W1.heap[b]? = W.heap[b]?:=by have h1:W.heap[b]? = some (W.heap[b]'hb):=Uj hb;rw[h1];exact h.heap _ _ h1
def Ed(P:Program)(g:Goroutine)(W:World)(g':Goroutine)(W':World):Prop:=
 ∀(main:Bool) (S R:Nat->Prop) (w:World),View S R w W->∃w' es,stepG P main g w=.go g' w' es∧View S R w' W'∧er S R w w'∧∀e∈es,EvS S R w'.heap.size e
def Ends(P:Program)(Φ:Value->World->Prop)(m:Machine)(t:Trace):Prop:=
 ∃M last o w' t',runNT P (M+1) m t=(.ended o w',t')∧runN P M m=.next last∧step P last=.ended o w'∧Conc.Good P Φ last o w' t'
structure Beside (P:Program) (S:Nat->Prop) (gs:Array Goroutine) (w:World) (t:Trace):Prop where
 old:∃q,Leavers P t gs q
 past:∃Xp,Past Xp w.heap.size t∧∀l,Xp l->∃a:Addr,l=.cell a∧S a.block
 quiet:∀(k:Nat) (a:Addr),t.act? k≠some (.mark (.release a))
def Er(P:Program)(Φ:Value->World->Prop)(w00:World)(S0:Nat->Prop)(g:Goroutine)(W:World):Prop:=
 ∀W1,Rv W W1->w00.heap.size<=W1.heap.size->∀(S:Nat->Prop) (w:World) (gs:Array Goroutine) (sl:Option (Nat×Nat)) (t:Trace),View S (λ_=>False) w W1->((∀b:Nat,S0 b->S b∧w.heap[b]? = w00.heap[b]?)∧∀b:Nat,S b->S0 b∨w00.heap.size<=b)->gs[0]? = some g->Beside P S gs w t->Ends P Φ (crowd gs w sl) t
theorem Er.grown{P:Program}{Φ:Value->World->Prop}{w00:World}{S0:Nat->Prop}{g:Goroutine}{W:World}(h:∀W1,Rv W W1->w00.heap.size<=W1.heap.size->Er P Φ w00 S0 g W1):Er P Φ w00 S0 g W:=λW1 r hz=>h W1 r hz W1 (Rv.refl W1) hz
def Tb(P:Program)(f:FuncId)(args:Array Value)(W:World)(R:Ending->World->Prop):Prop:=
 ∀Φ w00 S0 cs,(∀e w' fr,R e w'->fr.fn=f->fr.leaving P w' e->Er P Φ w00 S0 (G fr cs) w')->Er P Φ w00 S0 (G (Frame.enter P f args .normal) cs) W
structure Closed (P:Program) (co:Bool) (E:Goroutine->World->Prop):Prop where
 mono:∀{g W W1},E g W->Rv W W1->E g W1
 step:∀{g W},g.status=.running->(∀W1,Rv W W1->∃g' W',Ed P g W1 g' W'∧E g' W')->E g W
 par:co=true->∀f args W R,Tb P f args W R->∀cs,(∀e w' fr,R e w'->fr.fn=f->fr.leaving P w' e->E (G fr cs) w')->E (G (Frame.enter P f args .normal) cs) W
theorem Closed.O0{P:Program}{co:Bool}{E:Goroutine->World->Prop}(h:Closed P co E):Closed P false E:=⟨h.mono,h.step,λe=>by cases e⟩
section
variable {P:Program}{co:Bool}{E:Goroutine->World->Prop}
theorem Closed.cg(hE:Closed P co E){g g':Goroutine}{W:World}(hs:g.status=.running)(h:∀main w,stepG P main g w=.go g' w #[])(k:E g' W):E g W:=
 hE.step hs λW1 h1=>⟨g',W1,λmain S R w hv=>⟨w,#[],h main w,hv,er.refl _ _ _,λe he=>by simp at he⟩,hE.mono k h1⟩
end
def LO(P:Program){α:Type} : Sem α->Prop
 | .pure _=>True
 | .load _ _ k=>∀v,LO P (k v)
 | .program k=>LO P (k P)
 | .halt _=>True
 | _=>False
theorem LO.bind{P:Program}{α β:Type} : ∀{m:Sem α} {f:α->Sem β},LO P m->(∀a,LO P (f a))->LO P (m.bind f):=by
 intro m
 induction m with
 | pure a=>exact λ_ h=>h a
 | load md a k ih=>exact λh hf v=>ih v (h v) hf
 | program k ih=>exact λh hf=>ih P h hf
 | halt h=>exact λ_ _=>trivial
 | _=>exact λh _=>h.elim
theorem LO.ns{P:Program}{α:Type} : ∀{m:Sem α},LO P m->NS P m:=by
 intro m
 induction m with
 | pure a=>exact λ_=>trivial
 | load md a k ih=>exact λh v=>ih v (h v)
 | program k ih=>exact λh=>ih P h
 | halt h=>exact λ_=>trivial
 | _=>exact λh=>h.elim
theorem oq{P:Program}{S R:Nat->Prop}{w W W1:World}(hr:Rv W W1)(hv:View S R w W1){α:Type} : ∀{m:Sem α} {r:α} {W':World},LO P m->m.run P W=.ok r W'->m.run P W1=.ok r W1:=by
 intro m
 induction m with
 | pure a=>
  intro r W' _ e;simp only[Sem.run,Result.ok.injEq] at e ⊢;exact⟨e.1,trivial⟩
 | load md a k ih=>
  intro r W' h e;simp only[Sem.run] at e ⊢;cases hc:W.cell? a with
  | some v=>
   rw[hc] at e;have hc1:W1.cell? a=some v:=by
    unfold World.cell? at hc ⊢;cases hb:W.heap[a.block]? with
    | none=>rw[hb] at hc;cases hc
    | some o=>rw[hr.heap _ _ hb];rw[hb] at hc;exact hc
   rw[hc1];exact ih v (h v) e
  | none=>
   rw[hc] at e;exfalso;have hx:∃x,W.farLoad P a (md==.atomic)=.error x:=(by unfold World.farLoad;split;rename_i b u hb;exact(hv.plain _ _ (hr.heap _ _ hb)).elim;exact⟨_,rfl⟩);obtain⟨x,hx⟩:=hx;rw[hx] at e;cases e
 | program k ih=>exact λh e=>ih P h e
 | halt h=>intro r W' _ e;cases e
 | _=>exact λh _=>h.elim
theorem EW{P:Program}(v:Value):LO P (asAddr v):=by unfold asAddr;split<;>trivial
theorem lK{P:Program}(a:Addr):∀(n i:Nat) (acc:Array Value),LO P (loadCellsFrom a i n acc)
 | 0,_,_=>trivial
 | n+1,i,acc=>λv=>lK a n (i+1) (acc.push v)
theorem qh{P:Program}(t:TypeId):LO P (typeInfo t):=by show LO P (match P.info? t with|some i=>pure i|none=>stuck "no such type");split<;>trivial
theorem sA{P:Program}{α:Type}{f:Program->Sem α}(h:LO P (f P)):LO P (program >>= f):=h
theorem uP{P:Program}(t:TypeId):LO P (sizeOf t):=LO.bind (qh t) λ_=>trivial
theorem yz{P:Program}(t:TypeId):LO P (isAgg t):=by unfold isAgg;exact LO.bind (by unfold underlying;first|exact sA trivial|(refine sA ?_;split<;>trivial)) λa=>by cases a<;>trivial
theorem sB{P:Program}(t:TypeId)(a:Addr):LO P (loadVar t a):=by
 unfold loadVar;refine LO.bind (yz t) λb=>?_;cases b with
 | true=>exact LO.bind (uP t) λn=>LO.bind (lK a n 0 #[]) λ_=>trivial
 | false=>exact λ_=>trivial
def Ls(tmps:Array Value):ResultVar->Sem Value
 | .tmp t=>pure (tmps.getD t undef)
 | .cell a t=>do loadVar t (<-asAddr (tmps.getD a undef))
theorem CX{P:Program}{α β:Type}{f:α->Sem β}(h:∀x,LO P (f x)):∀(l:List α),LO P (l.mapM f)
 | []=>trivial
 | x::r=>by rw[List.mapM_cons];exact LO.bind (h x) λy=>LO.bind (CX h r) λ_=>trivial
theorem cY{P:Program}(fn:Func)(tmps:Array Value):LO P (results fn tmps):=by
 have e:results fn tmps=(fn.results.mapM (Ls tmps) >>= λvs=>pure (if h:vs.size=1 then vs[0] else .tuple vs)):=rfl;rw[e,Array.mapM_eq_mapM_toList];refine LO.bind ?_ λ_=>trivial;rw[map_eq_pure_bind];refine LO.bind (CX (λx=>?_) _) λ_=>trivial;cases x with
 | tmp t=>trivial
 | cell a t=>exact LO.bind (EW _) λb=>sB t b
def br(P:Program)(co:Bool)(f:FuncId)(args:Array Value)(W:World)(R:Ending->World->Prop):Prop:=
 ∀E,Closed P co E->∀cs,(∀e w' fr,R e w'->fr.fn=f->fr.leaving P w' e->E (G fr cs) w')->E (G (Frame.enter P f args .normal) cs) W
theorem br.lift{P:Program}{co:Bool}{f:FuncId}{args:Array Value}{W:World}{R:Ending->World->Prop}(h:br P false f args W R):br P co f args W R:=λE hE cs hc=>h E hE.O0 cs hc
theorem Fx{P:Program}{f:FuncId}{args:Array Value}{W:World}{R:Ending->World->Prop}(h:Tb P f args W R):br P true f args W R:=λE hE cs hc=>hE.par rfl f args W R h cs hc
theorem br.mono{P:Program}{co:Bool}{f:FuncId}{args:Array Value}{W:World}{R R':Ending->World->Prop}(h:br P co f args W R)(k:∀e w,R e w->R' e w):br P co f args W R':=
 λE hE cs hc=>h E hE cs λe w' fr hr=>hc e w' fr (k e w' hr)
def jB(P:Program)(co:Bool)(l:Nat)(fn:FuncId)(tmps:Array Value)(VB body:Code)(W:World)(R:Value->World->Prop):Prop:=
 ∀E,Closed P co E->∀(c:Frame) (cs:List Frame),(∀v W',R v W'->E (G (c.finish v) cs) W')->E (G (Frame.round l fn tmps VB body .normal) (c::cs)) W
theorem jB.mono{P:Program}{co:Bool}{l:Nat}{fn:FuncId}{tmps:Array Value}{VB body:Code}{W:World}{R R':Value->World->Prop}(h:jB P co l fn tmps VB body W R)(k:∀v w,R v w->R' v w):jB P co l fn tmps VB body W R':=
 λE hE c cs hc=>h E hE c cs λv w hr=>hc v w (k v w hr)
def xy(P:Program)(co:Bool)(o:Oper)(a:Act)(next:Act->World->Prop):Result Next->Prop
 | .ok (.value v) w'=>next (a.put o.dst v) w'
 | .ok .skip w'=>next (a.put o.dst undef) w'
 | .ok (.enter f args) w'=>br P co f args w' fun
   | .returned v,w''=>next (a.put o.dst v) w''
   | _,_=>False
 | .ok (.round l fn tmps VB body) w'=>jB P co l fn tmps VB body w' λv w''=>next (a.put o.dst v) w''
 | _=>False
def cR(P:Program)(co:Bool)(o:Oper)(a:Act)(w:World)(next:Act->World->Prop):Prop:=xy P co o a next ((execOp a.eval o).run P w)
def OpJ(P:Program)(co:Bool)(o:Oper)(a:Act)(w:World)(next:Act->World->Prop):Prop:=NS P (execOp a.eval o)∧∀W1,Rv w W1->cR P co o a W1 next
def Q6(E:Goroutine->World->Prop)(b:Frame)(k:List Item)(cs:List Frame):Exit->Act->World->Prop
 | .normal,a,w=>E (G (b.at a k) cs) w
 | .exit id,a,w=>∃k',exitTo id k=some k'∧E (G (b.at a k') cs) w
 | .ret,a,w=>∀todo,E (G {b.at a todo with mode:=.returning} cs) w
 | _,_,_=>True
def LK:Exit->Prop
 | .normal|.exit _|.ret=>True
 | _=>False
def wpJ(P:Program)(co:Bool)(c:Code)(Q:Exit->Act->World->Prop)(a:Act)(W:World):Prop:=
 ∀E,Closed P co E->∀(b:Frame) (k:List Item) (cs:List Frame),b.kind≠.early->b.roundOf=none->(∀e a' w',Q e a' w'->LK e∧Q6 E b k cs e a' w')->E (G (b.at a (.code c::k)) cs) W
section
variable {P:Program}{co:Bool}{Q Q':Exit->Act->World->Prop}{a:Act}{W:World}
theorem Az{o:Oper}{K K':Act->World->Prop}(h:∀a w,K a w->K' a w){r:Result Next}(k:xy P co o a K r):xy P co o a K' r:=by
 unfold xy at *;split at k;exact h _ _ k;exact h _ _ k
 ·exact br.mono k λe w he=>by
   cases e with
   | returned v=>exact h _ _ he
   | panicked c=>exact he.elim
   | outgrown=>exact he.elim
 exact jB.mono k λv w=>h _ _;exact k.elim
theorem OpJ.mono{o:Oper}{K K':Act->World->Prop}(h:∀a w,K a w->K' a w)(k:OpJ P co o a W K):OpJ P co o a W K':=⟨k.1,λW1 h1=>Az h (k.2 W1 h1)⟩
theorem GV{c:Code}(h:wpJ P co c Q a W)(k:∀e a w,Q e a w->Q' e a w):wpJ P co c Q' a W:=λE hE b t cs h1 h2 h3=>h E hE b t cs h1 h2 λe a' w' hq=>h3 e a' w' (k e a' w' hq)
theorem xI{main:Bool}{b:Frame}{k:List Item}{cs:List Frame}{w w':World}{ops:Array Oper}{i:Nat}{rest:List Nat}{o:Oper}{l:Nat}{fn:FuncId}{tmps:Array Value}{VB body:Code}(ho:ops[i]? = some o)(hw:Region.wanted o (yielded ops a.tmps)=true)
  (hk:b.kind≠.early) (hr:(execOp a.eval o).run P w=.ok (.round l fn tmps VB body) w') :
  stepG P main (G (b.at a (.inRegion ops (i::rest)::k)) cs) w=.go (G (Frame.round l fn tmps VB body .normal) (b.at a (.inRegion ops (i::rest)::k)::cs)) w' (listed P b.fn a o w):=by
 have WJ:(b.kind==CallKind.early)=false:=by simpa using hk
 rw[stepG_oper ho hw];simp[stepG.apply,hr,G,Frame.at,WJ,GStep.after,listed]
theorem qR{E:Goroutine->World->Prop}(hE:Closed P co E){b:Frame}{k:List Item}{cs:List Frame}(hk:b.kind≠.early){ops:Array Oper}{i:Nat}{rest:List Nat}{o:Oper}(ho:ops[i]? = some o)(hw:Region.wanted o (yielded ops a.tmps)=true)
  {K:Act->World->Prop} (h:OpJ P co o a W K) (hK:∀a' w',K a' w'->E (G (b.at a' (.inRegion ops rest::k)) cs) w'):E (G (b.at a (.inRegion ops (i::rest)::k)) cs) W:=by
 refine hE.step rfl λW1 h1=>?_;have hu:=h.2 W1 h1;unfold cR at hu;cases hr:(execOp a.eval o).run P W1 with
 | halt x w'=>rw[hr] at hu;exact hu.elim
 | ok x w'=>
  rw[hr] at hu;cases x with
  | value v=>
   refine⟨_,w',λmain S R w hv=>?_,hK _ _ hu⟩;obtain⟨u,k1,k2,kk,k3⟩:=b7 #[] h.1 hv hr;refine⟨u,_,stepG_value ho hw hk k1,k2,kk,λe he=>?_⟩;rcases k3 e (mem_listed he) with q|q;simp at q;exact q
  | skip=>
   refine⟨_,w',λmain S R w hv=>?_,hK _ _ hu⟩;obtain⟨u,k1,k2,kk,k3⟩:=b7 #[] h.1 hv hr;refine⟨u,_,stepG_none ho hw hk k1,k2,kk,λe he=>?_⟩;rcases k3 e (mem_listed he) with q|q;simp at q;exact q
  | enter f args=>
   refine⟨G (Frame.enter P f args .normal) (b.at a (.inRegion ops (i::rest)::k)::cs),w',λmain S R w hv=>?_,?_⟩;obtain⟨u,k1,k2,kk,k3⟩:=b7 #[] h.1 hv hr;refine⟨u,_,stepG_enter ho hw hk k1,k2,kk,λe he=>?_⟩;rcases k3 e (mem_listed he) with q|q;simp at q;exact q;have hu:br P co f args w' _:=hu;refine hu E hE _ λe w2 fr hR _ hl=>?_;cases e with
   | panicked c=>exact hR.elim
   | outgrown=>exact hR.elim
   | returned v=>
    have hR:K (a.put o.dst v) w2:=hR;obtain⟨l1,l2,l3,fn,l4,l5⟩:=hl;refine hE.step rfl λW3 h3=>⟨G (b.at (a.put o.dst v) (.inRegion ops rest::k)) cs,W3,λmain S R w hv=>?_,hE.mono (hK _ _ hR) h3⟩
    have e1:=oq h3 hv (cY fn fr.tmps) l5;obtain⟨u,k1,k2,kk,k3⟩:=b7 #[] (cY fn fr.tmps).ns hv e1;refine⟨u,seen P fr.fn ((results fn fr.tmps).events P w #[]),?_,k2,kk,λe he=>?_⟩;have VY:(b.at a (.inRegion ops (i::rest)::k)).finish v=b.at (a.put o.dst v) (.inRegion ops rest::k):=(by rw[Frame.finish_at,ho];rfl);rw[<-VY];obtain⟨ffn,ZR,ZQ,XU,ZS,ZT,YD⟩:=fr;simp only at l1 l2 l3 l4 k1;subst l1 l2 l3;simp[G,stepG,unwind,doReturn,l4,k1,GStep.after];rcases k3 e (mem_seen he) with q|q;simp at q;exact q
  | round l fn tmps VB body=>
   refine⟨G (Frame.round l fn tmps VB body .normal) (b.at a (.inRegion ops (i::rest)::k)::cs),w',λmain S R w hv=>?_,?_⟩;obtain⟨u,k1,k2,kk,k3⟩:=b7 #[] h.1 hv hr;refine⟨u,_,xI ho hw hk k1,k2,kk,λe he=>?_⟩;rcases k3 e (mem_listed he) with q|q;simp at q;exact q;have hu:jB P co l fn tmps VB body w' _:=hu;refine hu E hE _ _ λv w2 hR=>?_;have VY:(b.at a (.inRegion ops (i::rest)::k)).finish v=b.at (a.put o.dst v) (.inRegion ops rest::k):=(by rw[Frame.finish_at,ho];rfl);rw[VY];exact hK _ _ hR
  | _=>exact hu.elim
def eD(P:Program)(co:Bool)(ops:Array Oper)(Q:Exit->Act->World->Prop):List Nat->Act->World->Prop
 | [],a,w=>Q .normal a w
 | i::rest,a,w=>match ops[i]? with
  | none=>eD P co ops Q rest a w
  | some o=>if Region.wanted o (yielded ops a.tmps)=true then OpJ P co o a w (eD P co ops Q rest) else eD P co ops Q rest (a.put o.dst undef) w
def cz(P:Program)(co:Bool)(ops:Array Oper)(Q:Exit->Act->World->Prop):List Oper->Act->World->Prop
 | [],a,w=>Q .normal a w
 | o::rest,a,w=>if Region.wanted o (yielded ops a.tmps)=true then OpJ P co o a w (cz P co ops Q rest) else cz P co ops Q rest (a.put o.dst undef) w
def nU(P:Program)(co:Bool)(ops:Array Oper)(i:Nat)(K:Act->World->Prop)(a:Act)(w:World):Prop:=
 match ops[i]? with
 | none=>K a w
 | some o=>if Region.wanted o (yielded ops a.tmps)=true then OpJ P co o a w K else K (a.put o.dst undef) w
def lu(P:Program)(co:Bool)(md:Region.Mode)(ops:Array Oper)(Q:Exit->Act->World->Prop):Nat->Array Bool->Act->World->Prop
 | 0,listed,a,w=>Region.ready md ops listed=[]∧Q .normal a w
 | fuel+1,listed,a,w=>
  (Region.ready md ops listed=[]->Q .normal a w) ∧
  ∀i∈Region.ready md ops listed,nU P co ops i (lu P co md ops Q fuel (listed.setIfInBounds i true)) a w
theorem rz{ops:Array Oper}{i:Nat}{K K':Act->World->Prop}(h:∀a w,K a w->K' a w)(k:nU P co ops i K a W):nU P co ops i K' a W:=by unfold nU at *;split;rename_i e;rw[e] at k;exact h _ _ k;rename_i o e;rw[e] at k;simp only at k;split;rename_i hw;rw[Uw hw] at k;exact k.mono h;rename_i hw;rw[Uv hw] at k;exact h _ _ k
theorem xv{ops:Array Oper}(i:Nat)(rest:List Nat)(a:Act)(w:World):eD P co ops Q (i::rest) a w=nU P co ops i (eD P co ops Q rest) a w:=by cases h:ops[i]?<;>simp[eD,nU,h]
theorem vw{ops:Array Oper}{rest:List Oper}{o:Oper}(h:∀K:Act->World->Prop,(∀a w,cz P co ops Q rest a w->K a w)->if Region.wanted o (yielded ops a.tmps)=true then OpJ P co o a W K else K (a.put o.dst undef) W) :
  cz P co ops Q (o::rest) a W:=h _ λ_ _ h=>h
theorem pV{ops:Array Oper} : ∀(l:List Oper) (k:Nat),(∀j:Nat,l[j]? = ops[k+j]?)->∀a w,cz P co ops Q l a w->eD P co ops Q (List.range' k l.length) a w
 | [],_,_,_,_,h=>h
 | o::l,k,hk,a,w,h=>by have h0:ops[k]? = some o:=(by simpa using (hk 0).symm);have ih:=pV l (k+1) λj=>(by have:=hk (j+1);simpa[Nat.add_assoc,Nat.add_comm 1 j] using this);rw[List.length_cons,List.range'_succ];simp only[eD,h0];simp only[cz] at h;split;rename_i hw;rw[Uw hw] at h;exact h.mono λa w h=>ih a w h;rename_i hw;rw[Uv hw] at h;exact ih _ _ h
theorem nV{md:Region.Mode}{ops:Array Oper} : ∀(fuel t:Nat) (listed:Array Bool) (a:Act) (w:World),lu P co md ops Q fuel listed a w->
  eD P co ops Q (Region.linearise.go md ops fuel t listed []) a w:=by
 intro fuel
 induction fuel with
 | zero=>intro t listed a w h;simpa[Region.linearise.go,eD] using h.2
 | succ fuel ih=>
  intro t listed a w h;obtain⟨h₀,h₁⟩:=h;simp only[Region.linearise.go];change eD P co ops Q (match (Region.ready md ops listed)[t%(Region.ready md ops listed).length]? with
   | some i=>Region.linearise.go md ops fuel (t/(Region.ready md ops listed).length) (listed.setIfInBounds i true) [i]
   | none=>[].reverse) a w
  cases hi:(Region.ready md ops listed)[t%(Region.ready md ops listed).length]? with
  | none=>
   have Xx:Region.ready md ops listed=[]:=by
    cases hr:Region.ready md ops listed with
    | nil=>rfl
    | cons x xs=>
     rw[hr] at hi;have UY:t%(x::xs).length<(x::xs).length:=Nat.mod_lt _ (by simp);simp at hi;simp at UY;omega
   simpa[eD] using h₀ Xx
  | some i=>
   simp only[];rw[linearise_go_acc,List.reverse_singleton,List.singleton_append,xv];exact rz (λa w=>ih _ _ a w) (h₁ i (UF hi))
theorem uI{E:Goroutine->World->Prop}(hE:Closed P co E){b:Frame}{k:List Item}{cs:List Frame}(hk:b.kind≠.early){ops:Array Oper}(hQ:∀a' w',Q .normal a' w'->E (G (b.at a' k) cs) w') :
  ∀(l:List Nat) (a:Act) (W:World),eD P co ops Q l a W->E (G (b.at a (.inRegion ops l::k)) cs) W
 | [],a,W,h=>hE.cg rfl (λ_ _=>stepG_region_end) (hQ a W h)
 | i::rest,a,W,h=>by
  have ih:=uI (ops:=ops) hE hk hQ rest;cases ho:ops[i]? with
  | none=>
   simp only[eD,ho] at h;refine hE.cg rfl (λmain w=>?_) (ih a W h);have VY:(b.at a (.inRegion ops (i::rest)::k)).finish undef=b.at a (.inRegion ops rest::k):=(by rw[Frame.finish_at,ho];rfl);rw[<-VY];simp[G,stepG,stepG.exec,Frame.at,ho]
  | some o=>
  simp only[eD,ho] at h;split at h;rename_i hw;exact qR hE hk ho hw h λa' w' h'=>ih a' w' h';rename_i hw;exact hE.cg rfl (λ_ _=>stepG_unwanted ho (by simpa using hw)) (ih _ _ h)
theorem View.drew{S R:Nat->Prop}{w W:World}(h:View S R w W):View S R w.drew W.drew:=h.draw
theorem Rv.drew(W:World):Rv W W.drew:=⟨rfl,rfl,rfl,λ_ _ h=>h⟩
theorem rA{id:Nat}{ops:Array Oper}(hm:P.follows .mixedOrders=true)(h:∀W1,Rv W W1->lu P co .any ops Q ops.size (Array.replicate ops.size false) a W1):wpJ P co (.region id ops true) Q a W:=by
 intro E hE b k cs h1 h2 h3;refine hE.step rfl λW1 r1=>?_;obtain⟨t,ht⟩:∃t,t=(Question.order b.fn id).cut (W1.tape W1.drawn (.order b.fn id)):=⟨_,rfl⟩
 refine⟨G (b.at a (.inRegion ops (Region.schedule (P.follows .mixedOrders) ops t)::k)) cs,W1.drew,λmain S R w hv=>⟨w.drew,#[],?_,hv.drew,⟨I' _,λ_ _=>rfl,rfl,rfl,rfl⟩,λe he=>by simp at he⟩,?_⟩;have hc:(choose (.order b.fn id)).run P w=.ok t w.drew:=(by rw[ht,<-hv.tape,<-hv.drawn];rfl);generalize hqq:choose (.order b.fn id)=qq at hc;simp[G,stepG,stepG.exec,Frame.at,hqq,hc];refine uI hE h1 (λa' w' YZ=>(h3 _ _ _ YZ).2) _ a _ ?_;simp only[Region.schedule,hm,Bool.true_or,if_true];exact nV ops.size t _ a _ (h _ (r1.trans (Rv.drew W1)))
def pO(P:Program)(co:Bool)(fn:Func)(R:Ending->World->Prop):Exit->Act->World->Prop
 | .normal,a,w|.ret,a,w=>a.defers=[]∧∃v,(results fn a.tmps).run P w=.ok v w∧R (.returned v) w
 | _,_,_=>False
theorem oD{f:FuncId}{fn:Func}{c:Code}{args:Array Value}{R:Ending->World->Prop}(hf:P.funcs[f]? = some fn)(hb:fn.body=some c)
  (h:wpJ P co c (pO P co fn R) {tmps:=args++Array.replicate (fn.ntmps-args.size) undef,defers:=[]} W):br P co f args W R:=by
 intro E hE cs hc;let b:Frame:={ (default:Frame) with fn:=f,kind:=.normal}
 have Zx:Frame.enter P f args .normal=b.at {tmps:=args++Array.replicate (fn.ntmps-args.size) undef,defers:=[]} [.code c]:=by simp[Frame.enter,Frame.at,hf,hb,b]
 rw[Zx];have Xv:∀a' w' todo,(a'.defers=[]∧∃v,(results fn a'.tmps).run P w'=.ok v w'∧R (.returned v) w')->E (G {b.at a' todo with mode:=.returning} cs) w':=by rintro a' w' todo ⟨d,v,hv,hR⟩;exact hc (.returned v) w' _ hR rfl ⟨rfl,d,rfl,fn,hf,hv⟩
 refine h E hE b [] cs (by simp[b]) rfl λe a' w' hq=>?_;cases e with
 | normal=>exact⟨trivial,hE.cg rfl (λ_ _=>stepG_end) (Xv a' w' [] hq)⟩
 | ret=>exact⟨trivial,λtodo=>Xv a' w' todo hq⟩
 | exit _=>exact hq.elim
 | goto _=>exact hq.elim
 | panic _=>exact hq.elim
 | outgrown=>exact hq.elim
theorem bs{o:Oper}{v:Value}{w:World}{K:Act->World->Prop}(e:(execOp a.eval o).run P w=.ok (.value v) w)(h:K (a.put o.dst v) w):cR P co o a w K:=by unfold cR;rw[e];exact h
theorem eL{o:Oper}{v:Value}{w w':World}{K:Act->World->Prop}(e:(execOp a.eval o).run P w=.ok (.value v) w')(h:K (a.put o.dst v) w'):cR P co o a w K:=by unfold cR;rw[e];exact h
end
section
variable {P:Program}
theorem aa{α β:Type}{m:Sem α}{f:α->Sem β}(h:NS P m)(k:∀a,NS P (f a)):NS P (m >>= f):=NS.bind h k
theorem bj{α:Type}{c:Prop}[Decidable c]{a b:Sem α}(h:NS P a)(k:NS P b):NS P (if c then a else b):=by split<;>assumption
theorem bC(q:Question):NS P (choose q):=λ_=>trivial
theorem gz{β:Type}{f:Program->Sem β}(h:NS P (f P)):NS P (program >>= f):=h
theorem aP(t:TypeId):NS P (typeInfo t):=(qh t).ns
theorem ak(t:TypeId):NS P (underlying t):=by unfold underlying;refine gz ?_;split<;>trivial
theorem bm(t:TypeId):NS P (sizeOf t):=(uP t).ns
theorem cb(t:TypeId):NS P (isAgg t):=(yz t).ns
theorem aO(t:TypeId):NS P (zeroValue t):=by unfold zeroValue;refine aa (aP t) λi=>?_;split<;>trivial
theorem dB(e:TypeId)(cs:Array Value):NS P (newRow e cs):=⟨trivial,λ_=>trivial⟩
theorem bB(e:TypeId)(v:Value):NS P (newVar e v):=dB _ _
theorem bA(t:TypeId)(a:Addr):NS P (loadVar t a):=(sB t a).ns
theorem aW(a:Addr)(n:Nat):NS P (loadCells a n):=(lK a n 0 #[]).ns
theorem dM(r:Nat):NS P (getObj r):=λ_=>trivial
theorem fM(r:Nat)(es:Array MapEntry)(c:Nat):NS P (setObj r (.map es c)):=⟨trivial,trivial⟩
theorem aK(a:Addr):∀(vs:List Value) (i:Nat),NS P (storeCells a vs i)
 | [],_=>trivial
 | v::r,i=>aK a r (i+1)
theorem ba(t:TypeId)(a:Addr)(v:Value):NS P (storeVar t a v):=by unfold storeVar;refine aa (bm t) λn=>?_;split;trivial;exact aK _ _ _
theorem bc{α:Type}(e:RuntimeError):NS P (runtimePanic e:Sem α):=by
 unfold runtimePanic;refine gz ?_;cases e<;>first|trivial|skip
 refine aa (aa (ak _) λd=>by split<;>trivial) λe=>aa (bB _ _) λr=>trivial;refine aa (aa (ak _) λd=>by split<;>trivial) λe=>aa (bB _ _) λr=>trivial
theorem Pz{α β:Type}{m:Sem α}(f:α->β)(h:NS P m):NS P (f <$> m):=by rw[map_eq_pure_bind];exact aa h λ_=>trivial
theorem b8{α:Type}(k:IntKind)(x y:Int)(c:BoundsCode):NS P (boundsPanic k x y c:Sem α):=by
 unfold boundsPanic;try dsimp only
 repeat' (first|exact trivial|exact aO _|exact ak _|exact aP _|exact bm _|exact cb _|exact dB _ _|exact bB _ _|exact bA _ _|exact aW _ _|exact aK _ _ _|exact ba _ _ _|exact bc _|exact bC _|exact Pz _ (bC _)|(refine aa ?_ λ_=>?_)|(refine bj ?_ ?_)|split|(dsimp only;done)|dsimp only)
theorem bK(v:Value):NS P (asIntOf v):=by unfold asIntOf;split<;>trivial
theorem cy(v:Value):NS P (asInt v):=aa (bK v) λ_=>trivial
theorem bD(v:Value):NS P (asBool v):=by unfold asBool;split<;>trivial
theorem cB(v:Value):NS P (asAgg v):=by unfold asAgg;split<;>trivial
theorem ca(v:Value):NS P (asAddr v):=by unfold asAddr;split<;>first|trivial|exact bc _
theorem cJ(v:Value):NS P (Instr.sureAddr v):=by unfold Instr.sureAddr;split<;>trivial
theorem cp(t:TypeId)(cs:Array Value)(off:Nat):NS P (part t cs off):=by
 unfold part;refine aa (cb t) λb=>?_;cases b with
 | true=>exact aa (bm t) λ_=>trivial
 | false=>
  simp only[Bool.false_eq_true,if_false];split<;>trivial
theorem CP{α β:Type}{f:α->Sem β}(h:∀x,NS P (f x)):∀(l:List α),NS P (l.mapM f)
 | []=>trivial
 | x::r=>by rw[List.mapM_cons];exact aa (h x) λy=>aa (CP h r) λ_=>trivial
theorem LR{α β:Type}{f:α->Sem β}(h:∀x,NS P (f x))(l:Array α):NS P (l.mapM f):=by rw[Array.mapM_eq_mapM_toList,map_eq_pure_bind];exact aa (CP h _) λ_=>trivial
theorem oc{α σ:Type}{f:α->σ->Sem (ForInStep σ)}(h:∀x s,NS P (f x s)):∀(l:List α) (s:σ),NS P (forIn l s f)
 | [],s=>by rw[List.forIn_nil];trivial
 | x::r,s=>by
  rw[List.forIn_cons];refine aa (h x s) λy=>?_;cases y with
  | done b=>trivial
  | yield b=>exact oc h r b
theorem we{α σ:Type}{f:α->σ->Sem (ForInStep σ)}(h:∀x s,NS P (f x s))(l:Array α)(s:σ):NS P (forIn l s f):=by rw[<-Array.forIn_toList];exact oc h _ s
theorem bQ(b:Nat):NS P (askRoom b):=by unfold askRoom;split;exact⟨rfl,trivial⟩;trivial
theorem o8(t:TypeId)(v:Value):NS P (Instr.loadAt t v):=aa (cJ v) λa=>bA t a
theorem kG(t:TypeId)(v x:Value):NS P (Instr.storeAt t v x):=aa (cJ v) λa=>ba t a x
theorem yj(t:TypeId):NS P (Instr.alloc t true (.tuple #[])):=aa (aO t) λz=>aa (bB t z) λ_=>trivial
theorem PD(t:TypeId)(v:Value):NS P (Instr.box t v):=aa (bB t v) λ_=>trivial
theorem Il(t:TypeId)(ps:Array (Nat×Value)):NS P (Instr.build t ps):=by
 unfold Instr.build;try dsimp only
 repeat' (first|exact trivial|exact aO _|exact ak _|exact aP _|exact bm _|exact cb _|exact dB _ _|exact bB _ _|exact bA _ _|exact aW _ _|exact aK _ _ _|exact ba _ _ _|exact bc _|exact b8 _ _ _ _|exact bK _|exact cy _|exact bD _|exact cB _|exact ca _|exact cJ _|exact cp _ _ _|exact bQ _|exact bC _|(refine LR (λ_=>?_) _)|(refine aa ?_ λ_=>?_)|(refine bj ?_ ?_)|split|(dsimp only;done)|dsimp only)
theorem tZ(t:TypeId)(n:Nat)(ps:Array (Nat×Value)):NS P (Instr.buildSlice t n ps):=by
 unfold Instr.buildSlice;try dsimp only
 repeat' (first|exact trivial|exact aO _|exact ak _|exact aP _|exact bm _|exact cb _|exact dB _ _|exact bB _ _|exact bA _ _|exact aW _ _|exact aK _ _ _|exact ba _ _ _|exact bc _|exact b8 _ _ _ _|exact bK _|exact cy _|exact bD _|exact cB _|exact ca _|exact cJ _|exact cp _ _ _|exact bQ _|exact bC _|(refine aa ?_ λ_=>?_)|(refine bj ?_ ?_)|split|(dsimp only;done)|dsimp only)
theorem Ik(t:TypeId)(x:Value)(k:Nat):NS P (Instr.field t x k):=by
 unfold Instr.field;try dsimp only
 repeat' (first|exact trivial|exact aO _|exact ak _|exact aP _|exact bm _|exact cb _|exact dB _ _|exact bB _ _|exact bA _ _|exact aW _ _|exact aK _ _ _|exact ba _ _ _|exact bc _|exact b8 _ _ _ _|exact bK _|exact cy _|exact bD _|exact cB _|exact ca _|exact cJ _|exact cp _ _ _|exact bQ _|exact bC _|(refine aa ?_ λ_=>?_)|(refine bj ?_ ?_)|split|(dsimp only;done)|dsimp only)
theorem sc(x:Value)(i:Nat):NS P (Instr.extract x i):=by
 unfold Instr.extract;try dsimp only
 repeat' (first|exact trivial|exact aO _|exact ak _|exact aP _|exact bm _|exact cb _|exact dB _ _|exact bB _ _|exact bA _ _|exact aW _ _|exact aK _ _ _|exact ba _ _ _|exact bc _|exact b8 _ _ _ _|exact bK _|exact cy _|exact bD _|exact cB _|exact ca _|exact cJ _|exact cp _ _ _|exact bQ _|exact bC _|(refine aa ?_ λ_=>?_)|(refine bj ?_ ?_)|split|(dsimp only;done)|dsimp only)
theorem wb(t:TypeId)(l c:Value):NS P (Instr.makeSlice t l c):=by
 unfold Instr.makeSlice;try dsimp only
 repeat' (first|exact trivial|exact aO _|exact ak _|exact aP _|exact bm _|exact cb _|exact dB _ _|exact bB _ _|exact bA _ _|exact aW _ _|exact aK _ _ _|exact ba _ _ _|exact bc _|exact b8 _ _ _ _|exact bK _|exact cy _|exact bD _|exact cB _|exact ca _|exact cJ _|exact cp _ _ _|exact bQ _|exact bC _|(refine aa ?_ λ_=>?_)|(refine bj ?_ ?_)|split|(dsimp only;done)|dsimp only)
theorem yh(t:TypeId)(x i:Value):NS P (Instr.index t x i):=by
 unfold Instr.index;try dsimp only
 repeat' (first|exact trivial|exact aO _|exact ak _|exact aP _|exact bm _|exact cb _|exact dB _ _|exact bB _ _|exact bA _ _|exact aW _ _|exact aK _ _ _|exact ba _ _ _|exact bc _|exact b8 _ _ _ _|exact bK _|exact cy _|exact bD _|exact cB _|exact ca _|exact cJ _|exact cp _ _ _|exact bQ _|exact bC _|(refine aa ?_ λ_=>?_)|(refine bj ?_ ?_)|split|(dsimp only;done)|dsimp only)
theorem rX(t:TypeId)(x i:Value):NS P (Instr.indexAt t x i):=by
 unfold Instr.indexAt;try dsimp only
 repeat' (first|exact trivial|exact aO _|exact ak _|exact aP _|exact bm _|exact cb _|exact dB _ _|exact bB _ _|exact bA _ _|exact aW _ _|exact aK _ _ _|exact ba _ _ _|exact bc _|exact b8 _ _ _ _|exact bK _|exact cy _|exact bD _|exact cB _|exact ca _|exact cJ _|exact cp _ _ _|exact bQ _|exact bC _|(refine aa ?_ λ_=>?_)|(refine bj ?_ ?_)|split|(dsimp only;done)|dsimp only)
theorem Im(x:Value)(y:Nat)(c:BoundsCode):NS P (Instr.sliceBound x y c):=by
 unfold Instr.sliceBound;try dsimp only
 repeat' (first|exact trivial|exact aO _|exact ak _|exact aP _|exact bm _|exact cb _|exact dB _ _|exact bB _ _|exact bA _ _|exact aW _ _|exact aK _ _ _|exact ba _ _ _|exact bc _|exact b8 _ _ _ _|exact bK _|exact cy _|exact bD _|exact cB _|exact ca _|exact cJ _|exact cp _ _ _|exact bQ _|exact bC _|(refine aa ?_ λ_=>?_)|(refine bj ?_ ?_)|split|(dsimp only;done)|dsimp only)
theorem sj(b:Bool)(l c:Nat)(lo hi mx:Option Value):NS P (Instr.sliceBounds b l c lo hi mx):=by
 unfold Instr.sliceBounds;try dsimp only
 repeat' (first|exact trivial|exact aO _|exact ak _|exact aP _|exact bm _|exact cb _|exact dB _ _|exact bB _ _|exact bA _ _|exact aW _ _|exact aK _ _ _|exact ba _ _ _|exact bc _|exact b8 _ _ _ _|exact bK _|exact cy _|exact bD _|exact cB _|exact ca _|exact cJ _|exact cp _ _ _|exact bQ _|exact bC _|exact Im _ _ _|(refine aa ?_ λ_=>?_)|(refine bj ?_ ?_)|split|(dsimp only;done)|dsimp only)
theorem Ii(t:TypeId)(x:Value)(lo hi mx:Option Value):NS P (Instr.slice t x lo hi mx):=by
 unfold Instr.slice;try dsimp only
 repeat' (first|exact trivial|exact aO _|exact ak _|exact aP _|exact bm _|exact cb _|exact dB _ _|exact bB _ _|exact bA _ _|exact aW _ _|exact aK _ _ _|exact ba _ _ _|exact bc _|exact b8 _ _ _ _|exact bK _|exact cy _|exact bD _|exact cB _|exact ca _|exact cJ _|exact cp _ _ _|exact bQ _|exact bC _|exact sj _ _ _ _ _ _|(refine aa ?_ λ_=>?_)|(refine bj ?_ ?_)|split|(dsimp only;done)|dsimp only)
theorem A9(t:TypeId)(x:Value)(lo hi mx:Option Value):NS P (Instr.sliceAt t x lo hi mx):=by
 unfold Instr.sliceAt;try dsimp only
 repeat' (first|exact trivial|exact aO _|exact ak _|exact aP _|exact bm _|exact cb _|exact dB _ _|exact bB _ _|exact bA _ _|exact aW _ _|exact aK _ _ _|exact ba _ _ _|exact bc _|exact b8 _ _ _ _|exact bK _|exact cy _|exact bD _|exact cB _|exact ca _|exact cJ _|exact cp _ _ _|exact bQ _|exact bC _|exact sj _ _ _ _ _ _|exact Ii _ _ _ _ _|(refine aa ?_ λ_=>?_)|(refine bj ?_ ?_)|split|(dsimp only;done)|dsimp only)
theorem Ih(o:UnOp)(x:Value):NS P (Op.unary o x):=by
 unfold Op.unary Op.intArith Op.intBits;try dsimp only
 repeat' (first|exact trivial|exact aO _|exact ak _|exact aP _|exact bm _|exact cb _|exact dB _ _|exact bB _ _|exact bA _ _|exact aW _ _|exact aK _ _ _|exact ba _ _ _|exact bc _|exact b8 _ _ _ _|exact bK _|exact cy _|exact bD _|exact cB _|exact ca _|exact cJ _|exact cp _ _ _|exact bQ _|exact bC _|(refine aa ?_ λ_=>?_)|(refine bj ?_ ?_)|split|(dsimp only;done)|dsimp only)
theorem Ij(a:Array TypeId)(t:TypeId)(x:Array Value):NS P (Builtin.len_ a t x):=by
 unfold Builtin.len_;try dsimp only
 repeat' (first|exact trivial|exact aO _|exact ak _|exact aP _|exact bm _|exact cb _|exact dB _ _|exact bB _ _|exact bA _ _|exact aW _ _|exact aK _ _ _|exact ba _ _ _|exact bc _|exact b8 _ _ _ _|exact bK _|exact cy _|exact bD _|exact cB _|exact ca _|exact cJ _|exact cp _ _ _|exact bQ _|exact bC _|exact dM _|(refine aa ?_ λ_=>?_)|(refine bj ?_ ?_)|split|(dsimp only;done)|dsimp only)
theorem PC(a:Array TypeId)(t:TypeId)(x:Array Value):NS P (Builtin.cap_ a t x):=by
 unfold Builtin.cap_;try dsimp only
 repeat' (first|exact trivial|exact aO _|exact ak _|exact aP _|exact bm _|exact cb _|exact dB _ _|exact bB _ _|exact bA _ _|exact aW _ _|exact aK _ _ _|exact ba _ _ _|exact bc _|exact b8 _ _ _ _|exact bK _|exact cy _|exact bD _|exact cB _|exact ca _|exact cJ _|exact cp _ _ _|exact bQ _|exact bC _|exact dM _|exact fM _ _ _|(refine aa ?_ λ_=>?_)|(refine bj ?_ ?_)|split|(dsimp only;done)|dsimp only)
theorem nM{α β:Type}{m:Sem α}{f:α->Sem β}(h:∀a,qG (f a)):qG (m.bind f):=λP w r w' e=>by
 have e:(m >>= f).run P w=.ok r w':=e;rw[UJ] at e;cases hm:m.run P w with
 | ok x w1=>rw[hm] at e;exact h x P w1 r w' e
 | halt x w1=>rw[hm] at e;cases e
theorem tr{α:Type}(u:Unsupported):qG (unsupported u:Sem α):=λ_ _ _ _ e=>by cases e
theorem yg(x:Value):NS P (Builtin.lenOf x):=by
 unfold Builtin.lenOf;try dsimp only
 repeat' (first|exact trivial|exact aO _|exact ak _|exact aP _|exact bm _|exact cb _|exact dB _ _|exact bB _ _|exact bA _ _|exact aW _ _|exact aK _ _ _|exact ba _ _ _|exact bc _|exact b8 _ _ _ _|exact bK _|exact cy _|exact bD _|exact cB _|exact ca _|exact cJ _|exact cp _ _ _|exact bQ _|exact bC _|exact dM _|exact fM _ _ _|(refine aa ?_ λ_=>?_)|(refine bj ?_ ?_)|split|(dsimp only;done)|dsimp only)
theorem mZ(s n:Nat)(x:Value):NS P (Builtin.firstCells s n x):=by
 unfold Builtin.firstCells;try dsimp only
 repeat' (first|exact trivial|exact aO _|exact ak _|exact aP _|exact bm _|exact cb _|exact dB _ _|exact bB _ _|exact bA _ _|exact aW _ _|exact aK _ _ _|exact ba _ _ _|exact bc _|exact b8 _ _ _ _|exact bK _|exact cy _|exact bD _|exact cB _|exact ca _|exact cJ _|exact cp _ _ _|exact bQ _|exact bC _|exact dM _|exact fM _ _ _|(refine aa ?_ λ_=>?_)|(refine bj ?_ ?_)|split|(dsimp only;done)|dsimp only)
theorem ye{α:Type}(size VO n:Nat)(base:Option Addr)(x:Value){f:Bool->Sem α}(h:∀b,qG (f b))(k:∀b,NS P (f b)):NS P (Builtin.mayShare size VO n base x >>= f):=by
 unfold Builtin.mayShare;cases base with
 | none=>
  cases x with
  | slice b l c=>
   cases b with
   | none=>exact k _
   | some b=>exact λs=>nM h
  | _=>exact k _
 | some a=>exact λs=>nM h
theorem LQ:NS P (mark .noRoom):=⟨rfl,trivial⟩
set_option maxHeartbeats 2000000 in
theorem EM(a:Array TypeId)(t:TypeId)(x:Array Value):NS P (Builtin.append_ a t x):=by
 unfold Builtin.append_;try dsimp only
 repeat' (first|exact LQ|exact tr _|exact nM (λ_=>tr _)|exact trivial|exact aO _|exact ak _|exact aP _|exact bm _|exact cb _|exact dB _ _|exact bB _ _|exact bA _ _|exact aW _ _|exact aK _ _ _|exact ba _ _ _|exact bc _|exact b8 _ _ _ _|exact bK _|exact cy _|exact bD _|exact cB _|exact ca _|exact cJ _|exact cp _ _ _|exact bQ _|exact bC _|exact dM _|exact fM _ _ _|exact yg _|exact mZ _ _ _|(refine ye _ _ _ _ _ (λb=>?_) (λb=>?_))|(refine aa ?_ λ_=>?_)|(refine bj ?_ ?_)|split|(dsimp only;done)|dsimp only)
theorem LS(a:Array TypeId)(t:TypeId)(x:Array Value):NS P (Builtin.copy_ a t x):=by
 unfold Builtin.copy_;try dsimp only
 repeat' (first|exact trivial|exact aO _|exact ak _|exact aP _|exact bm _|exact cb _|exact dB _ _|exact bB _ _|exact bA _ _|exact aW _ _|exact aK _ _ _|exact ba _ _ _|exact bc _|exact b8 _ _ _ _|exact bK _|exact cy _|exact bD _|exact cB _|exact ca _|exact cJ _|exact cp _ _ _|exact bQ _|exact bC _|exact dM _|exact fM _ _ _|exact yg _|exact mZ _ _ _|(refine aa ?_ λ_=>?_)|(refine bj ?_ ?_)|split|(dsimp only;done)|dsimp only)
theorem Sf(a:Array TypeId)(t:TypeId)(x:Array Value):NS P (Builtin.clear_ a t x):=by
 unfold Builtin.clear_;try dsimp only
 repeat' (first|exact trivial|exact aO _|exact ak _|exact aP _|exact bm _|exact cb _|exact dB _ _|exact bB _ _|exact bA _ _|exact aW _ _|exact aK _ _ _|exact ba _ _ _|exact bc _|exact b8 _ _ _ _|exact bK _|exact cy _|exact bD _|exact cB _|exact ca _|exact cJ _|exact cp _ _ _|exact bQ _|exact bC _|exact dM _|exact fM _ _ _|(refine aa ?_ λ_=>?_)|(refine bj ?_ ?_)|split|(dsimp only;done)|dsimp only)
end
end Go.Proofs.YtgigkennhdolpaaGreatDoor
