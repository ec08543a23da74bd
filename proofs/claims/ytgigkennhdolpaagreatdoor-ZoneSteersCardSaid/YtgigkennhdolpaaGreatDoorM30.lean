/- Company, 53: a range over a function that hands over nothing; marks of such a range among the deferred calls. Company, 54: functions with ranges over functions that hand over nothing: the state from range to range, and the end. -/
import Derived.Test.YtgigkennhdolpaaGreatDoorM29
import Derived.Test.YtgigkennhdolpaaGreatDoorM28
import Derived.RangeFuncRecord
namespace Go.Proofs.YtgigkennhdolpaaGreatDoor
open Go.Conc Go.RowKit
section
variable {PP:Program}{C:Cx PP}{Γ:List (Con C)}{nt nm0:Nat}{I:Inl}{inls:List Nat}{h:How}{w0:World}{ρe:Names}{E:Goroutine→World→Prop}{b:Frame}{cs:List Frame}{k:List Item}
theorem piece_E(hE:Closed C.P C.co E)(hI:gu C I)(hm:C.P.follows .mixedOrders=true)(hdom:∀n b,ρe.n n=some b→n<nm0)(hdomv:∀e l,ρe.v e=some l→e<nm0∧l.o<nm0)(hdomk:∀m i l,ρe.k m i=some l→m<nm0)(hb:b.kind≠.early)(hr:b.roundOf=none){c x y y':Code}(hc:c=.seq x y'){st:St}{K:Ex→St→Prop}(hcut:cutAt h.cuts y=false)(hB:fj h.fl x=true)(he:ev Γ nt nm0 I inls h (.seq x y) st K)(hK:∀e st,K e st→e=.normal)
  {ρ:Names} {a:Act} {W:World} (hR:Rp C nt w0 ρe st ρ a W) (next:∀st' ρ' a' W',ev Γ nt nm0 I inls h y st' K→Rp C nt w0 ρe st' ρ' a' W'→E (G (b.at a' (.code y'::k)) cs) W'):E (G (b.at a (.code c::k)) cs) W:=by
 subst hc
 refine e_seq hE ?_
 simp only[ev,hcut] at he
 refine(fL hI hm hdom hdomv hdomk x st _ hB he ρ a W hR) E hE b (.code y'::k) cs hb hr fun e a' W' ⟨x',st',ρ',he',hK',hR'⟩=>?_
 cases x' with
 | normal=>subst he';exact⟨trivial,next st' ρ' a' W' hK' hR'⟩
 | exit i=>exact absurd (hK _ _ hK') (by simp)
 | ret=>exact absurd (hK _ _ hK') (by simp)
theorem last_E(hE:Closed C.P C.co E)(hI:gu C I)(hm:C.P.follows .mixedOrders=true)(hdom:∀n b,ρe.n n=some b→n<nm0)(hdomv:∀e l,ρe.v e=some l→e<nm0∧l.o<nm0)(hdomk:∀m i l,ρe.k m i=some l→m<nm0)(hb:b.kind≠.early)(hr:b.roundOf=none){c x y':Code}(hc:c=.seq x y'){st:St}{K:Ex→St→Prop}(hB:fj h.fl x=true)(he:ev Γ nt nm0 I inls h x st K)(hK:∀e st,K e st→e=.normal)
  {ρ:Names} {a:Act} {W:World} (hR:Rp C nt w0 ρe st ρ a W) (next:∀st' ρ' a' W',K .normal st'→Rp C nt w0 ρe st' ρ' a' W'→E (G (b.at a' (.code y'::k)) cs) W'):E (G (b.at a (.code c::k)) cs) W:=by
 subst hc
 refine e_seq hE ?_
 refine(fL hI hm hdom hdomv hdomk x st _ hB he ρ a W hR) E hE b (.code y'::k) cs hb hr fun e a' W' ⟨x',st',ρ',he',hK',hR'⟩=>?_
 obtain rfl:=hK _ _ hK'
 subst he'
 exact⟨trivial,next st' ρ' a' W' hK' hR'⟩
theorem rp_again{st:St}{ρ:Names}{a a':Act}{W W':World}(hR:Rp C nt w0 ρe st ρ a W)(r:Rv W W')(hs:a'.tmps.size=nt)(hd:a'.defers=ρe.d){sl':List (Nat×Slot)}{H':bd}{nm':Nat}(hnm:nm'=st.nm)(hH:∀n sb,look H' n=some sb→look st.H n=some sb)(hsl:∀t s,look sl' t=some s→s.rg=0∧∃x,den ρ s.v x∧a'.tmps[t]? = some x):Rp C nt w0 ρe ⟨sl',H',nm',0,[],[]⟩ ρ a' W':=by
 subst hnm
 exact⟨⟨hR.base.mem.gr (dQ r),fun n sb hn=>(hR.base.hok.gr (dQ r)).blk n sb (hH n sb hn),hs,hd⟩,fun t s hst=>by rw[(hsl t s hst).1];exact Nat.le_refl 0,fun t s hst _=>(hsl t s hst).2⟩
theorem Rp.later{st:St}{ρ:Names}{a:Act}{W W':World}(hR:Rp C nt w0 ρe st ρ a W)(r:Rv W W'):Rp C nt w0 ρe st ρ a W':=⟨⟨hR.base.mem.gr (dQ r),fun n sb hn=>(hR.base.hok.gr (dQ r)).blk n sb hn,hR.base.sz,hR.base.df⟩,hR.rgs,hR.de⟩
theorem rp_start{n:Nat}{args:List SV}{vs:List Value}{ze:Nat→Nat→Value→Prop}{W:World}(hn:args.length≤n)(hG:C.Grd W)(hz:∀b i c,ze b i c→W.cell? ⟨b,i,none⟩=some c∧c.oneCell'=true)(hargs:aj (ba ze) args vs):Rp C n W (ba ze).noD ⟨cu 0 args,[],0,0,[],[]⟩ (ba ze) {tmps:=vs.toArray++Array.replicate (n-vs.toArray.size) undef,defers:=[]} W:=by
 have hlen:=aE hargs
 have hH:=gU hG hz
 refine⟨⟨Mem.refl hH.hb (fun n b h=>by cases h) (fun e l h=>by cases h) (fun m i l h=>by cases h),hH.blk,by simp;omega,rfl⟩,fun t s hs=>?_,fun t s hs hg=>?_⟩
 ·obtain⟨i,v,-,-,rfl⟩:=eR hs
  exact Nat.le_refl _
 ·obtain⟨i,v,rfl,hv,rfl⟩:=eR hs
  obtain⟨u,h1,h2⟩:=eB hargs hv
  refine⟨u,h2,?_⟩
  have hl:i<vs.length:=(List.getElem?_eq_some_iff.1 h1).1
  rw[Nat.zero_add,Array.getElem?_append_left (by simpa using hl)]
  simpa using h1
end
section
variable {P:Program}{co:Bool}{E:Goroutine→World→Prop}{b:Frame}{a:Act}{k:List Item}{cs:List Frame}{W:World}
theorem ns_setLoop(r:Nat)(l:Loop):NS P (setObj r (.loop l)):=⟨trivial,trivial⟩
theorem ns_getLoop(l:Nat):NS P (Instr.getLoop l):=by
 unfold Instr.getLoop
 refine ab (dt l) fun o=>?_
 cases o<;>trivial
theorem ns_enterLoop(fn:FuncId)(tmps:Array Value)(ps:Array Tmp)(asg body:Code):NS P (Instr.enterLoop fn tmps ps asg body none):=by
 unfold Instr.enterLoop
 exact⟨trivial,fun _=>⟨trivial,fun _=>trivial⟩⟩
theorem ns_endLoop(l:Nat):NS P (Instr.endLoop l):=by
 unfold Instr.endLoop
 refine ab (ns_getLoop l) fun r=>?_
 exact bq (ab (br _) fun _=>ab (ns_setLoop _ _) fun _=>trivial) (ab (ns_setLoop _ _) fun _=>trivial)
theorem oX(l:Nat):NS P (Instr.takeDeferred l):=by
 unfold Instr.takeDeferred
 refine ab (dt l) fun o=>?_
 split
 ·exact⟨trivial,trivial⟩
 ·trivial
theorem evS_up{S R:Nat→Prop}{n m:Nat}{e:Event}(h:EvS S R n e)(hn:n≤m):EvS S R m e:=by
 unfold EvS at *
 split at h
 ·exact⟨h.1,by omega,h.2.2⟩
 ·exact⟨h.1,by omega,h.2.2⟩
 ·exact h
 ·exact h
theorem no_ev{S R:Nat→Prop}{m:Nat}{e:Event}{es:Array Event}{fn:FuncId}(h:∀e∈es,e∈(#[]:Array Event)∨EvS S R m e)(he:e∈seen P fn es):EvS S R m e:=by
 rcases h e (mem_seen he) with q|q
 ·simp at q
 ·exact q
theorem e_collect(hE:Closed P co E){D:Nat}{ds:List Deferred}{todo:List Item}(hd:a.defers = {target:=.collected D,args:=#[]}::ds)(hD:W.heap[D]? = some (.deferred (some [])))
  (h:∀W1,Rv W W1→E (G {b.at ⟨a.tmps,ds⟩ todo with mode:=.returning} cs) (W1.putObj D (.deferred none))):E (G {b.at a todo with mode:=.returning} cs) W:=by
 refine hE.step rfl fun W1 r1=>⟨_,_,fun main S R w hv=>?_,h W1 r1⟩
 obtain⟨u,k1,k2,kk,k3⟩:=eh #[] (oX D) hv (run_takeDeferred (P:=P) (r1.heap _ _ hD))
 refine⟨u,_,?_,k2,kk,fun e he=>no_ev (P:=P) (fn:=b.fn) k3 he⟩
 simp[G,stepG,unwind,Frame.at,hd,k1,GStep.after]
theorem e_range0(hE:Closed P co E)(hk:b.kind≠.early)(hro:b.roundOf=none){g:Operand}{ps:Array Tmp}{asg body:Code}{gf:Nat}{lb:Array Value}(hg:a.eval g=.func (.func gf) #[] lb)(eg:∀args w,(callFunc gf args).run P w=.ok (.enter gf args) w)(ns:∀args,NS P (callFunc gf args)){X:Nat→Nat→World→World→Prop}
  (hit:∀D l W2,Gr W W2→W.heap.size≤D→D<l→l<W2.heap.size→bP P co gf (#[.func (.yield l) #[] #[]]++lb) W2 fun e W'=>(∃v,e=.returned v)∧W'.heap[D]? = W2.heap[D]?∧W'.heap[l]? = W2.heap[l]?∧X D l W2 W')
  (hK:∀D l W2 W3 W4 o,Gr W W2→W.heap.size≤D→D<l→l<W2.heap.size→X D l W2 W3→Rv W3 W4→W4.heap[D]? = some (.deferred (some []))→W4.heap[l]? = some (.loop o)→E (G (b.at ⟨a.tmps,{target:=.collected D,args:=#[]}::a.defers⟩ k) cs) (W4.putObj l (.loop {o with state:=.exhausted}))) :
  E (G (b.at a (.code (.rangeFunc g ps asg body)::k)) cs) W:=by
 refine hE.step rfl fun W1 r1=>?_
 obtain⟨rec,hrec⟩:∃rec:LoopState→Loop,rec=fun s=>{state:=s,pending:=none,fn:=b.fn,tmps:=a.tmps,params:=ps,assign:=asg,body,defers:=W1.heap.size}:=⟨_,rfl⟩
 obtain⟨W2,hW2⟩:∃W2,(W1.alloc (.deferred (some []))).alloc (.loop (rec .ready))=W2:=⟨_,rfl⟩
 have hg12:Gr W1 W2:=by rw[←hW2];exact((Gr.refl W1).alloc _).alloc _
 have hL2:W2.heap[W1.heap.size+1]? = some (.loop (rec .ready)):=by
  rw[←hW2];have:=World.alloc_heap_new (W1.alloc (.deferred (some []))) (.loop (rec .ready));rwa [World.size_alloc] at this
 have hD2:W2.heap[W1.heap.size]? = some (.deferred (some [])):=by
  rw[←hW2];exact(Below.heap_alloc _ _ _ (by simp)).trans (World.alloc_heap_new W1 _)
 have hlt:W1.heap.size+1<W2.heap.size:=(Array.getElem?_eq_some_iff.1 hL2).1
 have e1:(Instr.enterLoop b.fn a.tmps ps asg body none).run P W1=.ok (W1.heap.size+1,[{target:=.collected W1.heap.size,args:=#[]}]) W2:=by
  rw[←hW2,hrec];exact run_enterLoop_outer _ _ _ _ _
 have hs1:=r1.size
 have g02:Gr W W2:=(dQ r1).trans hg12
 let a':Act:=⟨a.tmps,{target:=.collected W1.heap.size,args:=#[]}::a.defers⟩
 refine⟨G (Frame.enter P gf (#[.func (.yield (W1.heap.size+1)) #[] #[]]++lb) .normal) (b.at a' (.inRangeFunc (W1.heap.size+1)::k)::cs),W2,fun main S R w hv=>?_,?_⟩
 ·obtain⟨u,k1,k2,kk,k3⟩:=eh #[] (ns_enterLoop _ _ _ _ _) hv e1
  obtain⟨u2,k4,k5,kk2,k6⟩:=eh #[] (ns (#[.func (.yield (W1.heap.size+1)) #[] #[]]++lb)) k2 (eg _ W2)
  have hk':(b.kind==CallKind.early)=false:=by simpa using hk
  refine⟨u2,seen P b.fn ((Instr.enterLoop b.fn a.tmps ps asg body none).events P w #[])++seen P b.fn ((callFunc gf (#[.func (.yield (W1.heap.size+1)) #[] #[]]++lb)).events P u #[]),?_,k5,kk.trans kk2,fun e he=>?_⟩
  ·have hres:∀(f:Frame),f.tmps=a.tmps→(do let d ←resolve f.eval {callee:=.value g,args:=#[.const (.func (.yield (W1.heap.size+1)) #[] #[])],argTypes:=#[]} 0;invoke d.target d.args)=callFunc gf (#[.func (.yield (W1.heap.size+1)) #[] #[]]++lb):=fun f hf=>by
    have hev:f.eval g=.func (.func gf) #[] lb:=by
     rw[←hg]
     cases g<;>simp[Frame.eval,Act.eval,hf]
    have hc:∀v,f.eval (.const v)=v:=fun _=>rfl
    simp only[resolve,hev,Deferred.ofValue,List.map_toArray,List.map_cons,List.map_nil,hc]
    simp[invoke]
   have happ:∀(fr:Frame) (s:Sem Next),fr.fn=b.fn→fr.kind=b.kind→fr.todo=.inRangeFunc (W1.heap.size+1)::k→s=callFunc gf (#[.func (.yield (W1.heap.size+1)) #[] #[]]++lb)→stepG.apply P true fr cs none s u=.go {frame:=Frame.enter P gf (#[.func (.yield (W1.heap.size+1)) #[] #[]]++lb) .normal,callers:=fr::cs,status:=.running,dying:=none} u2 (seen P b.fn ((callFunc gf (#[.func (.yield (W1.heap.size+1)) #[] #[]]++lb)).events P u #[])):=fun fr s f1 f2 f3 f4=>by
    subst f4
    simp[stepG.apply,k4,f1,f2,f3,hk',GStep.after]
   simp only[G,stepG,stepG.exec,Frame.at,hro]
   simp[k1]
   have hx:=happ {fn:=b.fn,tmps:=a.tmps,todo:=.inRangeFunc (W1.heap.size+1)::k,defers:={target:=.collected W1.heap.size,args:=#[]}::a.defers,mode:=.run,kind:=b.kind} _ rfl rfl rfl (hres {fn:=b.fn,tmps:=a.tmps,todo:=.inRangeFunc (W1.heap.size+1)::k,defers:={target:=.collected W1.heap.size,args:=#[]}::a.defers,mode:=.run,kind:=b.kind} rfl)
   refine(congrArg (GStep.after _) hx).trans ?_
   simp[GStep.after,a']
  ·rcases Array.mem_append.1 he with he|he
   ·exact evS_up (no_ev (P:=P) k3 he) kk2.size
   ·exact no_ev (P:=P) k6 he
 ·refine hit W1.heap.size (W1.heap.size+1) W2 g02 hs1 (by omega) hlt E hE _ fun e W3 fr hR hfn hl=>?_
  obtain⟨⟨v,rfl⟩,hD,hL,hX⟩:=hR
  obtain⟨l1,l2,l3,fn,l4,l5⟩:=hl
  have hL3:=hL.trans hL2
  have hD3:=hD.trans hD2
  refine hE.step rfl fun W4 r4=>⟨G (b.at a' (.endRangeFunc (W1.heap.size+1)::k)) cs,W4,fun main S R w hv=>?_,?_⟩
  ·have e1:=lo_view r4 hv (eX fn fr.tmps) l5
   obtain⟨u,k1,k2,kk,k3⟩:=eh #[] (eX fn fr.tmps).ns hv e1
   refine⟨u,seen P fr.fn ((results fn fr.tmps).events P w #[]),?_,k2,kk,fun e he=>no_ev (P:=P) k3 he⟩
   obtain⟨ffn,ftmps,ftodo,fdefers,fmode,fkind,fround⟩:=fr
   simp only at l1 l2 l3 l4 k1
   subst l1 l2 l3
   simp[G,stepG,unwind,doReturn,l4,k1,GStep.after,Frame.finish,Frame.at]
  ·refine hE.step rfl fun W5 r5=>⟨G (b.at a' k) cs,W5.putObj (W1.heap.size+1) (.loop {rec .ready with state:=.exhausted}),fun main S R w hv=>?_,?_⟩
   ·have hL5:=(r5.heap _ _ (r4.heap _ _ hL3))
    have e5:=run_endLoop (P:=P) hL5 (by rw[hrec];simp)
    have hp:(rec .ready).pending=none:=by rw[hrec]
    obtain⟨u,k1,k2,kk,k3⟩:=eh #[] (ns_endLoop (W1.heap.size+1)) hv e5
    refine⟨u,seen P b.fn ((Instr.endLoop (W1.heap.size+1)).events P w #[]),?_,k2,kk,fun e he=>no_ev (P:=P) k3 he⟩
    simp[G,stepG,stepG.exec,Frame.at,k1,hp,GStep.after,a']
   ·exact hK _ _ W2 W3 W5 _ g02 hs1 (by omega) hlt hX (r4.trans r5) (r5.heap _ _ (r4.heap _ _ hD3)) (r5.heap _ _ (r4.heap _ _ hL3))
end
structure o7 (W W':World) (r:Nat):Prop where
 os:W'.os=W.os
 tape:W'.tape=W.tape
 output:W'.output=W.output
 size:W'.heap.size=W.heap.size
 block:∀b,b≠r→W'.heap[b]? = W.heap[b]?
 obj:∃o,W.heap[r]? = some o∧o.isCells=false∧o.isWalk=false
theorem turn_put{W:World}{r:Nat}{o:Obj}(o':Obj)(h:W.heap[r]? = some o)(h1:o.isCells=false)(h2:o.isWalk=false):o7 W (W.putObj r o') r:=
 ⟨rfl,rfl,rfl,World.putObj_size,fun _ hb=>World.putObj_heap_other hb,o,h,h1,h2⟩
section
variable {PP:Program}{C:Cx PP}{ρ ρe:Names}{W W' w0:World}{r nm nt:Nat}
theorem o7.cell(t:o7 W W' r){b i:Nat}{c:Value}(h:W.cell? ⟨b,i,none⟩=some c):W'.cell? ⟨b,i,none⟩=some c:=by
 have hb:b≠r:=by
  rintro rfl
  obtain⟨o,h1,h2,-⟩:=t.obj
  unfold World.cell? at h
  simp only[h1] at h
  cases o<;>simp_all [Obj.isCells]
 exact(cell_of_heap (t.block b hb)).trans h
theorem o7.blk(t:o7 W W' r){b:Nat}{u:Array Value}{ty:TypeId}(h:Blk W b u ty):Blk W' b u ty:=by
 have h':W.heap[b]? = some (.cells u ty (0,0)):=h
 have hb:b≠r:=by
  rintro rfl
  obtain⟨o,h1,h2,-⟩:=t.obj
  rw[h'] at h1
  obtain rfl:=Oi h1
  cases h2
 exact(t.block b hb).trans h'
theorem o7.map(t:o7 W W' r){b:Nat}{es:Array MapEntry}{cl:Nat}(h:W.heap[b]? = some (.map es cl)):W'.heap[b]? = some (.map es cl):=by
 have hb:b≠r:=by
  rintro rfl
  obtain⟨o,h1,-,h2⟩:=t.obj
  rw[h] at h1
  obtain rfl:=Oi h1
  cases h2
 exact(t.block b hb).trans h
theorem HB.lr(h:HB C ρ W)(t:o7 W W' r):HB C ρ W':=
 ⟨h.own,fun n b hb=>⟨(h.low n b hb).1,by rw[t.size];exact(h.low n b hb).2⟩,fun b i c hz=>⟨t.cell (h.zok b i c hz).1,(h.zok b i c hz).2⟩,
  by rw[t.size];exact h.grd.1,fun b sb hb=>let ⟨h0,vs,h1,h2⟩:=h.grd.2 b sb hb;⟨h0,vs,h1,fun i v hv=>t.cell (h2 i v hv)⟩⟩
theorem dD.lr{q:LV}{sz:Nat}{f:Nat→List SV}{ty:TypeId}(h:dD ρ W q sz f ty)(t:o7 W W' r):dD ρ W' q sz f ty:=
 ⟨h.1,fun hc=>let ⟨b,u,k1,k2,k3⟩:=h.2 hc;⟨b,u,k1,t.blk k2,k3⟩⟩
theorem da.lr{n:Nat}{sb:SB}(h:da ρ W n sb)(t:o7 W W' r):da ρ W' n sb:=by
 cases sb with
 | gone=>trivial
 | lay cs ty=>obtain⟨b,vs,h1,h2,h3,h4⟩:=h;exact⟨b,vs,h1,h2,t.blk h3,h4⟩
 | lst e sz N f ty=>
  obtain⟨l,h1,h2,h3,h4,h5⟩:=h
  exact⟨l,h1,h2,h3,h4,fun hc=>let ⟨b,u,k1,k2,k3⟩:=h5 hc;⟨b,u,k1,t.blk k2,k3⟩⟩
 | mp k ag has g=>obtain⟨b,es,cl,h1,h2,h3⟩:=h;exact⟨b,es,cl,h1,t.map h2,h3⟩
 | nst e sz N f p szk g tk ty last=>
  obtain⟨l,K⟩:=h
  exact⟨l,K.hv,K.ho,K.hN,K.hle,fun hc=>let ⟨b,u,k1,k2,k3⟩:=K.row hc;⟨b,u,k1,t.blk k2,k3⟩,fun i hi=>let ⟨q,q1,q2,q3⟩:=K.kid i hi;⟨q,q1,q2,q3.lr t⟩,K.no,K.ne⟩
 | alt=>
  obtain⟨l,l',K⟩:=h
  exact⟨l,l',K.move (fun _ _ _ h=>h) (fun _=>rfl) (fun _ _ h=>h) (fun b u ty _ h=>t.blk h) (fun _ _ h=>h)⟩
theorem Mem.lr(h:Mem C w0 ρe nm ρ W)(t:o7 W W' r)(hr:w0.heap.size≤r):Mem C w0 ρe nm ρ W':=
 ⟨h.hb.lr t,h.dom,h.domv,h.domk,h.le,h.old,h.zold,t.os.trans h.keep.os,t.tape.trans h.keep.tape,t.output.trans h.keep.output,by rw[t.size];exact h.keep.size,fun b hb hn=>(t.block b (by omega)).trans (h.keep.block b hb hn)⟩
theorem Rp.lr{st:St}{a:Act}(h:Rp C nt w0 ρe st ρ a W)(t:o7 W W' r)(hr:w0.heap.size≤r):Rp C nt w0 ρe st ρ a W':=
 ⟨⟨h.base.mem.lr t hr,fun n sb hn=>(h.base.blk n sb hn).lr t,h.base.sz,h.base.df⟩,h.rgs,h.de⟩
end
def mM(D:Nat):Deferred:={target:=.collected D,args:=#[]}
def Names.dd(ρ:Names)(ds:List Deferred):Names:=⟨ρ.n,ρ.v,ρ.k,ρ.z,ds,fun _=>False⟩
section
variable {PP:Program}{C:Cx PP}{Γ:List (Con C)}{nt nm0:Nat}{I:Inl}{inls:List Nat}{h:How}{w0:World}{ρe:Names}{E:Goroutine→World→Prop}{b:Frame}{cs:List Frame}{k:List Item}
theorem Mem.dd{w1 W:World}{ρ1 ρ:Names}{nm:Nat}{ds:List Deferred}(h:Mem C w1 (ρ1.dd ds) nm ρ W):Mem C w1 ρ1.noD nm ρ W:=
 ⟨h.hb,h.dom,h.domv,h.domk,⟨h.le.n,h.le.v,h.le.k,h.le.z⟩,h.old,h.zold,h.keep.os,h.keep.tape,h.keep.output,h.keep.size,h.keep.block⟩
structure AtR (C:Cx PP) (nt:Nat) (w0:World) (ρe:Names) (nm0:Nat) (Ds:List Nat) (st:St) (ρ:Names) (a:Act) (W:World):Prop where
 ex:∃w1 ρ1,Mem C w0 ρe nm0 ρ1 w1∧(∀D∈Ds,w1.heap[D]? = some (.deferred (some []))∧(∀n,¬bX ρ1 n D)∧w0.heap.size≤D)∧Rp C nt w1 (ρ1.dd (Ds.map mM)) st ρ a W
 nd:Ds.Nodup
theorem oa(hE:Closed C.P C.co E)(hI:gu C I)(hm:C.P.follows .mixedOrders=true)(hb:b.kind≠.early)(hr:b.roundOf=none){x:Code}{st:St}{K:Ex→St→Prop}(hB:fj h.fl x=true){Ds:List Nat}{ρ:Names}{a:Act}{W:World}(A:AtR C nt w0 ρe nm0 Ds st ρ a W)(he:ev Γ nt nm0 I inls h x st K)
  (next:∀e st' ρ' a' W',K e st'→AtR C nt w0 ρe nm0 Ds st' ρ' a' W'→okEx (Ex.to e)∧ArrJ E b k cs (Ex.to e) a' W'):E (G (b.at a (.code x::k)) cs) W:=by
 obtain⟨w1,ρ1,m1,mk,hR⟩:=A.ex
 refine(fL (ρe:=ρ1.dd (Ds.map mM)) hI hm m1.dom m1.domv m1.domk x st _ hB he ρ a W hR) E hE b k cs hb hr fun e a' W' ⟨x',st',ρ',he',hK',hR'⟩=>?_
 subst he'
 exact next x' st' ρ' a' W' hK' ⟨⟨w1,ρ1,m1,mk,hR'⟩,A.nd⟩
theorem atr_seq(hE:Closed C.P C.co E)(hI:gu C I)(hm:C.P.follows .mixedOrders=true)(hb:b.kind≠.early)(hr:b.roundOf=none){c x y y':Code}(hc:c=.seq x y'){st:St}{K:Ex→St→Prop}(hcut:cutAt h.cuts y=false)(hB:fj h.fl x=true){Ds:List Nat}{ρ:Names}{a:Act}{W:World}(A:AtR C nt w0 ρe nm0 Ds st ρ a W)(he:ev Γ nt nm0 I inls h (.seq x y) st K)(hK:∀e st,K e st→e=.normal)
  (next:∀st' ρ' a' W',ev Γ nt nm0 I inls h y st' K→AtR C nt w0 ρe nm0 Ds st' ρ' a' W'→E (G (b.at a' (.code y'::k)) cs) W'):E (G (b.at a (.code c::k)) cs) W:=by
 subst hc
 refine e_seq hE ?_
 simp only[ev,hcut] at he
 refine oa hE hI hm hb hr hB A he fun e st' ρ' a' W' hk A'=>?_
 cases e with
 | normal=>exact⟨trivial,next st' ρ' a' W' hk A'⟩
 | exit i=>exact absurd (hK _ _ hk) (by simp)
 | ret=>exact absurd (hK _ _ hk) (by simp)
theorem atr_cut(hE:Closed C.P C.co E)(hI:gu C I)(hm:C.P.follows .mixedOrders=true)(hb:b.kind≠.early)(hr:b.roundOf=none){c x y':Code}(hc:c=.seq x y'){st:St}{ct:Cut}(hB:fj h.fl x=true){Ds:List Nat}{ρ:Names}{a:Act}{W:World}(A:AtR C nt w0 ρe nm0 Ds st ρ a W)(he:ev Γ nt nm0 I inls h x st (fun e st'=>e=.normal∧ct.at_ nm0 st' fun _=>True))
  (next:∀u ρ' a' W',ct.P u→AtR C nt w0 ρe nm0 Ds (ct.J u) ρ' a' W'→E (G (b.at a' (.code y'::k)) cs) W'):E (G (b.at a (.code c::k)) cs) W:=by
 subst hc
 refine e_seq hE (oa hE hI hm hb hr hB A he fun e st' ρ' a' W' hk A'=>?_)
 obtain⟨rfl,hk⟩:=hk
 obtain⟨w1,ρ1,m1,mk,hR⟩:=A'.ex
 obtain⟨u,ρ2,-,hp,hR2⟩:=hk.rp (ρe:=ρ1.dd (Ds.map mM)) m1.dom m1.domv m1.domk hR
 exact⟨trivial,next u ρ2 a' W' hp ⟨⟨w1,ρ1,m1,mk,hR2⟩,A'.nd⟩⟩
theorem atr_start{n:Nat}{args:List SV}{vs:List Value}{ze:Nat→Nat→Value→Prop}{W:World}(hn:args.length≤n)(hG:C.Grd W)(hz:∀b i c,ze b i c→W.cell? ⟨b,i,none⟩=some c∧c.oneCell'=true)(hargs:aj (ba ze) args vs):AtR C n W (ba ze).noD 0 [] ⟨cu 0 args,[],0,0,[],[]⟩ (ba ze) {tmps:=vs.toArray++Array.replicate (n-vs.toArray.size) undef,defers:=[]} W:=by
 have hH:=gU hG hz
 exact⟨⟨W,ba ze,Mem.refl hH.hb (fun n b h=>by cases h) (fun e l h=>by cases h) (fun m i l h=>by cases h),⟨fun D hD=>absurd hD List.not_mem_nil,rp_start hn hG hz hargs⟩⟩,List.nodup_nil⟩
theorem AtR.all{Ds:List Nat}{st:St}{ρ:Names}{a:Act}{W:World}(A:AtR C nt w0 ρe nm0 Ds st ρ a W):Mem C w0 ρe st.nm ρ W∧a.defers=Ds.map mM∧∀D∈Ds,W.heap[D]? = some (.deferred (some []))∧(∀n,¬bX ρ n D)∧w0.heap.size≤D:=by
 obtain⟨w1,ρ1,m1,mk,hR⟩:=A.ex
 refine⟨m1.trans hR.base.mem.dd,hR.base.df,fun D hD=>?_⟩
 obtain⟨h1,h2,h3⟩:=mk D hD
 have hl:D<w1.heap.size:=(Array.getElem?_eq_some_iff.1 h1).1
 have hn:¬jU (ρ1.dd (Ds.map mM)) D:=fun hm=>by
  rcases hm with ⟨n,hn⟩|hn
  ·exact h2 n hn
  ·exact hn
 refine⟨(hR.base.mem.keep.block D hl hn).trans h1,fun n ho=>?_,h3⟩
 rcases hR.base.mem.old n D ho with h|h
 ·exact hn h
 ·omega
def ck(H H':bd):Prop:=∀n sb,look H n=some sb→look H' n=some sb
theorem ck.refl(H:bd):ck H H:=fun _ _ h=>h
theorem ck.cons{H H':bd}{k:Nat}{x:SB}(h:ck H H')(hk:look H k=none):ck H ((k,x)::H'):=fun n sb hn=>by
 rw[ae _ _ (fun e=>by subst e;rw[hk] at hn;cases hn)]
 exact h n sb hn
theorem atr_range0{Fs:List (FnI C)}{d m:Nat}(hE:Closed C.P C.co E)(hm:C.P.follows .mixedOrders=true)(hb:b.kind≠.early)(hr:b.roundOf=none){g:Operand}{ps:Array Tmp}{asg body code:Code}{cap:List SV}{st:St}{Ds:List Nat}{ρ:Names}{a:Act}{W:World}(A:AtR C nt w0 ρe nm0 Ds st ρ a W)(F:FnI C)(hg:opOut st.sl g=some (.f (.func F.f) [] cap))
  (hbd:F.fn.body=some code) (hnt:Nat.ble (cap.length+1) F.fn.ntmps=true)
  (hw:∀l,ev Γ F.fn.ntmps st.nm (ku Γ Fs d) (gF Fs) ⟨F.fl,F.cuts,F.invs,F.fu⟩ code ⟨cu 0 (.v (.func (.yield l) #[] #[])::cap),st.H,st.nm,0,[],[]⟩ (endK C F.fn.results.toList fun _ H' nm'=>ck st.H H'∧Nat.ble nm' m=true))
  (hK:∀D ρ' a' W',AtR C nt w0 ρe m (D::Ds) ⟨st.sl,st.H,m,st.rg,[],[]⟩ ρ' a' W'→E (G (b.at a' k) cs) W'):E (G (b.at a (.code (.rangeFunc g ps asg body)::k)) cs) W:=by
 obtain⟨hall,hdf,hmk⟩:=A.all
 obtain⟨w1,ρ1,m1,mk,hR⟩:=A.ex
 obtain⟨u,lb,hu,hcap,hga⟩:=gh hR hg
 obtain rfl:=ca hu
 have hno:∀D,W.heap.size≤D→∀n,¬bX ρ n D:=fun D hD n ho=>by have:=(hall.hb.low n D ho).2;omega
 refine e_range0 (X:=fun _ _ W2 W'=>∃ρ',Mem C W2 ρ.noD m ρ' W'∧∀n sb,look st.H n=some sb→da ρ' W' n sb) hE hb hr hga F.en (fun args=>dG F.hf F.hB args) (fun D l W2 g2 hD hDl hl=>?_) fun D l W2 W3 W4 o g2 hD hDl hl hX r4 hD4 hl4=>?_
 ·have hB:fj F.fl code=true:=by have:=F.hB;unfold fp at this;rw[hbd] at this;exact this
  have hHok:HOk C st.H ρ W2:=hR.base.hok.gr g2
  have hd1:aj ρ (.v (.func (.yield l) #[] #[])::cap) (.func (.yield l) #[] #[]::lb):=aM rfl hcap
  have:=fM (w0:=W2) (args:=.v (.func (.yield l) #[] #[])::cap) ⟨F.fl,F.cuts,F.invs,F.fu⟩ (dH hm d) hm F.hf hbd hnt hB hHok hall.dom hall.domv hall.domk hd1 _ (hw l)
  rw[show #[Value.func (.yield l) #[] #[]]++lb.toArray=(Value.func (.yield l) #[] #[]::lb).toArray by simp]
  refine this.mono ?_
  rintro e W' ⟨v,val,H',nm',ρ',rfl,⟨hle,hnm⟩,h1,h2,-⟩
  have h1:=h1.up (Nat.le_of_ble_eq_true hnm)
  have h2:∀n sb,look st.H n=some sb→da ρ' W' n sb:=fun n sb h=>h2 n sb (hle n sb h)
  have hk:∀D,W.heap.size≤D→D<W2.heap.size→W'.heap[D]? = W2.heap[D]?:=fun D h3 h4=>h1.keep.block D h4 fun hm=>by
   rcases hm with ⟨n,hn⟩|hn
   ·exact hno D h3 n hn
   ·exact hn
  exact⟨⟨_,rfl⟩,hk D hD (by omega),hk l (by omega) hl,ρ',h1,h2⟩
 ·obtain⟨ρ',h1,h2⟩:=hX
  have t:=turn_put (.loop {o with state:=.exhausted}) hl4 rfl rfl
  have hs:=hall.keep.size
  have hmem3:Mem C w0 ρe m ρ' W4:=((hall.gr g2).trans h1).gr (dQ r4)
  have hmem4:=hmem3.lr t (by omega)
  have hok4:HOk C st.H ρ' W4:=HOk.gr ⟨h1.hb,h2⟩ (dQ r4)
  have hno3:∀D,D<W2.heap.size→(∀n,¬bX ρ n D)→(∀n,¬bX ρ' n D)∧W3.heap[D]? = W2.heap[D]?:=fun D hD hn=>by
   have hm:¬jU ρ.noD D:=fun hm=>by
    rcases hm with ⟨n,ho⟩|ho
    ·exact hn n ho
    ·exact ho
   refine⟨fun n ho=>?_,h1.keep.block D hD hm⟩
   rcases h1.old n D ho with h|h
   ·exact hm h
   ·omega
  refine hK D ρ' _ _ ⟨⟨_,ρ',hmem4,fun D' hD'=>?_,⟨⟨⟨hmem4.hb,hmem4.dom,hmem4.domv,hmem4.domk,⟨fun _ _ h=>h,fun _ _ h=>h,fun _ _ _ h=>h,fun _ _ _ h=>h⟩,fun n _ ho=>.inl (.inl ⟨n,ho⟩),fun _ _ _ hz=>.inl hz,.refl _ _⟩,fun n sb hn=>(hok4.blk n sb hn).lr t,hR.base.sz,?_⟩,hR.rgs,fun t s hs hg=>?_⟩⟩,?_⟩
  ·rcases List.mem_cons.1 hD' with rfl|hD'
   ·refine⟨?_,(hno3 D' (by omega) (hno D' hD)).1,by omega⟩
    rw[World.putObj_heap_other (by omega)];exact hD4
   ·obtain⟨q1,q2,q3⟩:=hmk D' hD'
    have hlt:D'<W.heap.size:=(Array.getElem?_eq_some_iff.1 q1).1
    have hlt2:D'<W2.heap.size:=by have:=g2.size;omega
    obtain⟨q4,q5⟩:=hno3 D' hlt2 q2
    refine⟨?_,q4,q3⟩
    rw[World.putObj_heap_other (by omega)]
    exact r4.heap _ _ (q5.trans ((g2.block D' hlt).trans q1))
  ·show {target:=.collected D,args:=#[]}::a.defers=_
   rw[hdf];rfl
  ·obtain⟨x,k1,k2⟩:=hR.de t s hs hg
   exact⟨x,bF (ρ:=ρ) ⟨h1.le.n,h1.le.v,h1.le.k,h1.le.z⟩ _ _ k1,k2⟩
  ·refine List.nodup_cons.2 ⟨fun hD'=>?_,A.nd⟩
   have:=(Array.getElem?_eq_some_iff.1 (hmk D hD').1).1
   omega
theorem atr_end{f:FuncId}{fn:Func}(hE:Closed C.P C.co E)(hf:C.P.funcs[f]? = some fn){K:SV→bd→Nat→Prop}{st:St}{ρ:Names}(hk:finK C fn.results.toList st (fun v=>K v st.H st.nm))
  (hc:∀v W' fr,(∃v' H' nm' ρ',K v' H' nm'∧Mem C w0 ρe nm' ρ' W'∧(∀n sb,look H' n=some sb→da ρ' W' n sb)∧den ρ' v' v)→fr.fn=f→fr.leaving C.P W' (.returned v)→E (G fr cs) W') (todo:List Item) :
  ∀(Ds:List Nat) (a:Act) (W:World),Rp C nt w0 (ρe.dd (Ds.map mM)) st ρ a W→Ds.Nodup→(∀D∈Ds,W.heap[D]? = some (.deferred (some []))∧w0.heap.size≤D)→Mem C w0 ρe st.nm ρ W→E (G { (fK f).at a todo with mode:=.returning} cs) W:=by
 intro Ds
 induction Ds with
 | nil=>
  intro a W hR _ _ hm
  obtain⟨v,h1,v',H',nm',h2,h3,h4,h5⟩:=end_ok (fn:=fn) rfl hR hk
  exact hc v W _ ⟨v',H',nm',ρ,h2,⟨h3.hb,h3.dom,h3.domv,h3.domk,hm.le,hm.old,hm.zold,hm.keep⟩,h4,h5⟩ rfl ⟨rfl,hR.base.df,rfl,fn,hf,h1⟩
 | cons D Ds ih=>
  intro a W hR hnd hmk hm
  refine e_collect hE (hR.base.df:a.defers=_) (hmk D (List.mem_cons_self ..)).1 fun W1 r1=>?_
  have hD1:=r1.heap _ _ (hmk D (List.mem_cons_self ..)).1
  have hlow:=(hmk D (List.mem_cons_self ..)).2
  have t:=turn_put (.deferred none) hD1 rfl rfl
  have hm1:=(hm.gr (dQ r1)).lr t hlow
  have hnd':=List.nodup_cons.1 hnd
  refine ih ⟨a.tmps,Ds.map mM⟩ _ ⟨⟨⟨hm1.hb,hm1.dom,hm1.domv,hm1.domk,?_,?_,?_,?_⟩,fun n sb hn=>((hR.base.hok.gr (dQ r1)).blk n sb hn).lr t,hR.base.sz,rfl⟩,hR.rgs,hR.de⟩ hnd'.2 (fun D' hD'=>?_) hm1
  ·have q:=((hR.later r1).lr t hlow).base.mem.le;exact⟨q.n,q.v,q.k,q.z⟩
  ·exact((hR.later r1).lr t hlow).base.mem.old
  ·exact((hR.later r1).lr t hlow).base.mem.zold
  ·have q:=((hR.later r1).lr t hlow).base.mem.keep;exact⟨q.os,q.tape,q.output,q.size,q.block⟩
  ·have hne:D'≠D:=fun e=>hnd'.1 (e▸hD')
   refine⟨?_,(hmk D' (List.mem_cons_of_mem _ hD')).2⟩
   rw[World.putObj_heap_other hne]
   exact r1.heap _ _ (hmk D' (List.mem_cons_of_mem _ hD')).1
theorem atr_end'{f:FuncId}{fn:Func}(hE:Closed C.P C.co E)(hf:C.P.funcs[f]? = some fn){K:SV→bd→Nat→Prop}{st:St}{ρ:Names}(hk:finK C fn.results.toList st (fun v=>K v st.H st.nm))
  (hc:∀v W' fr,(∃v' H' nm' ρ',K v' H' nm'∧Mem C w0 ρe nm' ρ' W'∧(∀n sb,look H' n=some sb→da ρ' W' n sb)∧den ρ' v' v)→fr.fn=f→fr.leaving C.P W' (.returned v)→E (G fr cs) W') (todo:List Item) {Ds:List Nat} {a:Act} {W:World} (hnoO:∀b,¬ρe.o b) (A:AtR C nt w0 ρe nm0 Ds st ρ a W):E (G { (fK f).at a todo with mode:=.returning} cs) W:=by
 obtain⟨hall,hdf,hmk⟩:=A.all
 obtain⟨w1,ρ1,m1,mk,hR⟩:=A.ex
 have hmine:∀b,jU ρe b→jU (ρe.dd (Ds.map mM)) b:=fun b hm=>by
  rcases hm with h|h
  ·exact .inl h
  ·exact absurd h (hnoO b)
 have hmine':∀b,jU (ρe.dd (Ds.map mM)) b→jU ρe b:=fun b hm=>by
  rcases hm with h|h
  ·exact .inl h
  ·exact h.elim
 refine atr_end hE hf hk hc todo Ds a W ⟨⟨⟨hall.hb,hall.dom,hall.domv,hall.domk,⟨hall.le.n,hall.le.v,hall.le.k,hall.le.z⟩,fun n b ho=>(hall.old n b ho).imp (hmine b) id,fun b i c hz=>(hall.zold b i c hz).imp id (Or.imp id (hmine b)),hall.keep.os,hall.keep.tape,hall.keep.output,hall.keep.size,fun b hb hn=>hall.keep.block b hb fun hm=>hn (hmine b hm)⟩,hR.base.blk,hR.base.sz,hdf⟩,hR.rgs,hR.de⟩ A.nd (fun D hD=>⟨(hmk D hD).1,(hmk D hD).2.2⟩) hall
end
end Go.Proofs.YtgigkennhdolpaaGreatDoor
