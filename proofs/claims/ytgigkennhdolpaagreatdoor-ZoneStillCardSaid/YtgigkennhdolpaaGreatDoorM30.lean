/- Company, 63: rounds of a range over a function. -/
import Derived.Test.YtgigkennhdolpaaGreatDoorM26
import Derived.Test.YtgigkennhdolpaaGreatDoorM12
import Derived.Test.YtgigkennhdolpaaGreatDoorM27
namespace Go.Proofs.YtgigkennhdolpaaGreatDoor
open Go.Conc Go.RowKit
section
variable {P:Program}{co:Bool}{E:Goroutine->World->Prop}{b:Frame}{a:Act}{k:List Item}{cs:List Frame}{W:World}
theorem IY(l:Nat)(args:Array Value):NS P (Instr.yield l args):=by unfold Instr.yield;refine aa (kR l) λr=>?_;exact bu (aa trivial λ_=>trivial) trivial
theorem uj(l:Nat):NS P (Instr.beginRound l):=by unfold Instr.beginRound;refine aa (kR l) λr=>aa (kQ _ _) λ_=>?_;split;trivial;exact bj _;exact bj _;exact bj _
theorem yv(l:Nat)(j:Option Code):NS P (Instr.endRound l j):=by unfold Instr.endRound;exact aa (kR l) λr=>aa (kQ _ _) λ_=>trivial
def La(P:Program)(co:Bool)(l:Nat)(args:Array Value)(W:World)(R:Value->World->Prop):Prop:=
 ∀W1,Rv W W1->∃fn tmps VM body,(Instr.yield l args).run P W1=.ok (.round l fn tmps VM body) W1∧jP P co l fn tmps VM body W1 R
def rfr(f:FuncId)(l:Nat):Frame:={ (default:Frame) with fn:=f,kind:=.normal,roundOf:=some l}
theorem Ii{l:Nat}{fn:FuncId}{tmps:Array Value}{VM body:Code}{R:Value->World->Prop}{Mid:Act->World->Prop}(hA:wpR P co VM (λe a W=>e=.normal∧Mid a W) ⟨tmps,[]⟩ W)
  (hM:∀a W,Mid a W->∀W1,Rv W W1->∃W2,(Instr.beginRound l).run P W1=.ok () W2∧wpR P co body (λe _ W3=>e=.normal∧∀W4,Rv W3 W4->∃v W5,(Instr.endRound l none).run P W4=.ok v W5∧R v W5) a W2):jP P co l fn tmps VM body W R:=by
 intro E hE c cs hc;have e0:Frame.round l fn tmps VM body .normal=(rfr fn l).atR ⟨tmps,[]⟩ [.code VM,.beginRound,.code body]:=rfl;rw[e0];have hk:(rfr fn l).kind≠.early:=by simp[rfr]
 refine hA E hE (rfr fn l) [.beginRound,.code body] (c::cs) hk λe a' W' ⟨he,hm⟩=>?_;subst he;refine⟨trivial,?_⟩;show E (G ((rfr fn l).atR a' [.beginRound,.code body]) (c::cs)) W';refine hE.step rfl λW1 r1=>?_;obtain⟨W2,h1,h2⟩:=hM _ _ hm W1 r1;refine⟨G ((rfr fn l).atR a' [.code body]) (c::cs),W2,λmain S R' w hv=>?_,h2 E hE (rfr fn l) [] (c::cs) hk λe a3 W3 ⟨he,h3⟩=>?_⟩
 ·obtain⟨sm,Yf⟩:∃sm:Sem Next,sm=(do Instr.beginRound l;pure Next.skip):=⟨_,rfl⟩
  have hns:NS P sm:=(by rw[Yf];exact aa (uj l) λ_=>trivial);have U6:sm.run P W1=.ok .skip W2:=(by rw[Yf];simp[UQ,h1,Result.andThen]);obtain⟨u',k1,k2,kk,k3⟩:=cb #[] hns hv U6;refine⟨u',seen P fn (sm.events P w #[]),?_,k2,kk,λe he=>lS (P:=P) k3 he⟩;have U7:stepG P main (G ((rfr fn l).atR a' [.beginRound,.code body]) (c::cs)) w=stepG.apply P true ((rfr fn l).atR a' [.beginRound,.code body]) (c::cs) none sm w:=(by rw[Yf];rfl);rw[U7];simp[G,stepG.apply,Frame.atR,rfr,k1,GStep.after,Frame.finish]
 subst he;refine⟨trivial,?_⟩;show E (G ((rfr fn l).atR a3 []) (c::cs)) W3;refine hE.step rfl λW4 r4=>?_;obtain⟨v,W5,h5,h6⟩:=h3 W4 r4;refine⟨G (c.finish v) cs,W5,λmain S R' w hv=>?_,hc v W5 h6⟩;obtain⟨u',k1,k2,kk,k3⟩:=cb #[] (yv l none) hv h5;refine⟨u',seen P fn ((Instr.endRound l none).events P w #[]),?_,k2,kk,λe he=>lS (P:=P) k3 he⟩;simp[G,stepG,stepG.exec,Frame.atR,rfr,k1,GStep.after,doReturn]
def oh(fn:FuncId)(tmps:Array Value)(ps:Array Tmp)(VM body:Code)(D:Nat)(s:LoopState):Loop:={state:=s,pending:=none,fn,tmps,params:=ps,assign:=VM,body,defers:=D}
theorem Nw(hE:Closed P co E)(hk:b.kind≠.early)(We:b.roundOf=none){g:Operand}{ps:Array Tmp}{VM body:Code}{gf:Nat}{lb:Array Value}(hg:a.eval g=.func (.func gf) #[] lb)(eg:∀args w,(callFunc gf args).run P w=.ok (.enter gf args) w)(ns:∀args,NS P (callFunc gf args)){X:Nat->Nat->World->World->Prop}
  (hit:∀D l W2,Gr W W2->W.heap.size<=D->D<l->l<W2.heap.size->W2.heap[D]? = some (.deferred (some []))->W2.heap[l]? = some (.loop (oh b.fn a.tmps ps VM body D .ready))->bx P co gf (#[.func (.yield l) #[] #[]]++lb) W2 λe W'=>(∃v,e=.returned v)∧W'.heap[D]? = W2.heap[D]?∧W'.heap[l]? = W2.heap[l]?∧X D l W2 W')
  (hK:∀D l W2 W3 W4 o,Gr W W2->W.heap.size<=D->D<l->l<W2.heap.size->X D l W2 W3->Rv W3 W4->W4.heap[D]? = some (.deferred (some []))->W4.heap[l]? = some (.loop o)->E (G (b.at ⟨a.tmps,{target:=.collected D,args:=#[]}::a.defers⟩ k) cs) (W4.putObj l (.loop {o with state:=.exhausted}))) :
  E (G (b.at a (.code (.rangeFunc g ps VM body)::k)) cs) W:=by
 refine hE.step rfl λW1 r1=>?_;obtain⟨rec,V5⟩:∃rec:LoopState->Loop,rec=λs=>{state:=s,pending:=none,fn:=b.fn,tmps:=a.tmps,params:=ps,assign:=VM,body,defers:=W1.heap.size}:=⟨_,rfl⟩
 obtain⟨W2,hW2⟩:∃W2,(W1.alloc (.deferred (some []))).alloc (.loop (rec .ready))=W2:=⟨_,rfl⟩
 have hg12:Gr W1 W2:=by rw[<-hW2];exact((Gr.refl W1).alloc _).alloc _
 have hL2:W2.heap[W1.heap.size+1]? = some (.loop (rec .ready)):=by rw[<-hW2];have:=World.alloc_heap_new (W1.alloc (.deferred (some []))) (.loop (rec .ready));rwa [World.size_alloc] at this
 have hD2:W2.heap[W1.heap.size]? = some (.deferred (some [])):=by rw[<-hW2];exact(Below.heap_alloc _ _ _ (by simp)).trans (World.alloc_heap_new W1 _)
 have U8:W1.heap.size+1<W2.heap.size:=(E'.1 hL2).1;have e1:(Instr.enterLoop b.fn a.tmps ps VM body none).run P W1=.ok (W1.heap.size+1,[{target:=.collected W1.heap.size,args:=#[]}]) W2:=by rw[<-hW2,V5];exact run_enterLoop_outer _ _ _ _ _
 have YQ:=r1.size;have g02:Gr W W2:=(cZ r1).trans hg12;let a':Act:=⟨a.tmps,{target:=.collected W1.heap.size,args:=#[]}::a.defers⟩
 refine⟨G (Frame.enter P gf (#[.func (.yield (W1.heap.size+1)) #[] #[]]++lb) .normal) (b.at a' (.inRangeFunc (W1.heap.size+1)::k)::cs),W2,λmain S R w hv=>?_,?_⟩;obtain⟨u,k1,k2,kk,k3⟩:=cb #[] (ot _ _ _ _ _) hv e1;obtain⟨u2,k4,k5,kk2,k6⟩:=cb #[] (ns (#[.func (.yield (W1.heap.size+1)) #[] #[]]++lb)) k2 (eg _ W2);have WL:(b.kind==CallKind.early)=false:=(by simpa using hk);refine⟨u2,seen P b.fn ((Instr.enterLoop b.fn a.tmps ps VM body none).events P w #[])++seen P b.fn ((callFunc gf (#[.func (.yield (W1.heap.size+1)) #[] #[]]++lb)).events P u #[]),?_,k5,kk.trans kk2,λe he=>?_⟩;have Y2:∀(f:Frame),f.tmps=a.tmps->(do let d <-resolve f.eval {callee:=.value g,args:=#[.const (.func (.yield (W1.heap.size+1)) #[] #[])],argTypes:=#[]} 0;invoke d.target d.args)=callFunc gf (#[.func (.yield (W1.heap.size+1)) #[] #[]]++lb):=λf hf=>(by have XL:f.eval g=.func (.func gf) #[] lb:=(by rw[<-hg];cases g<;>simp[Frame.eval,Act.eval,hf]);have hc:∀v,f.eval (.const v)=v:=λ_=>rfl;simp only[resolve,XL,Deferred.ofValue,List.map_toArray,List.map_cons,List.map_nil,hc];simp[invoke]);have happ:∀(fr:Frame) (s:Sem Next),fr.fn=b.fn->fr.kind=b.kind->fr.todo=.inRangeFunc (W1.heap.size+1)::k->s=callFunc gf (#[.func (.yield (W1.heap.size+1)) #[] #[]]++lb)->stepG.apply P true fr cs none s u=.go {frame:=Frame.enter P gf (#[.func (.yield (W1.heap.size+1)) #[] #[]]++lb) .normal,callers:=fr::cs,status:=.running,dying:=none} u2 (seen P b.fn ((callFunc gf (#[.func (.yield (W1.heap.size+1)) #[] #[]]++lb)).events P u #[])):=λfr s f1 f2 f3 f4=>(by subst f4;simp[stepG.apply,k4,f1,f2,f3,WL,GStep.after]);simp only[G,stepG,stepG.exec,Frame.at,We];simp[k1];have hx:=happ {fn:=b.fn,tmps:=a.tmps,todo:=.inRangeFunc (W1.heap.size+1)::k,defers:={target:=.collected W1.heap.size,args:=#[]}::a.defers,mode:=.run,kind:=b.kind} _ rfl rfl rfl (Y2 {fn:=b.fn,tmps:=a.tmps,todo:=.inRangeFunc (W1.heap.size+1)::k,defers:={target:=.collected W1.heap.size,args:=#[]}::a.defers,mode:=.run,kind:=b.kind} rfl);refine(Uv (GStep.after _) hx).trans ?_;simp[GStep.after,a'];rcases Array.mem_append.1 he with he|he;exact JS (lS (P:=P) k3 he) kk2.size;exact lS (P:=P) k6 he;refine hit W1.heap.size (W1.heap.size+1) W2 g02 YQ (by omega) U8 hD2 (by rw[hL2,V5];rfl) E hE _ λe W3 fr hR hfn hl=>?_;obtain⟨⟨v,rfl⟩,hD,hL,hX⟩:=hR;obtain⟨l1,l2,l3,fn,l4,l5⟩:=hl;have hL3:=hL.trans hL2;have hD3:=hD.trans hD2;refine hE.step rfl λW4 r4=>⟨G (b.at a' (.endRangeFunc (W1.heap.size+1)::k)) cs,W4,λmain S R w hv=>?_,?_⟩
 have e1:=ox r4 hv (dt fn fr.tmps) l5;obtain⟨u,k1,k2,kk,k3⟩:=cb #[] (dt fn fr.tmps).ns hv e1;refine⟨u,seen P fr.fn ((results fn fr.tmps).events P w #[]),?_,k2,kk,λe he=>lS (P:=P) k3 he⟩;obtain⟨ffn,Z3,Z2,XY,Z4,Z5,YJ⟩:=fr;simp only at l1 l2 l3 l4 k1;subst l1 l2 l3;simp[G,stepG,unwind,doReturn,l4,k1,GStep.after,Frame.finish,Frame.at];refine hE.step rfl λW5 r5=>⟨G (b.at a' k) cs,W5.putObj (W1.heap.size+1) (.loop {rec .ready with state:=.exhausted}),λmain S R w hv=>?_,?_⟩
 ·have hL5:=(r5.heap _ _ (r4.heap _ _ hL3))
  have e5:=run_endLoop (P:=P) hL5 (by rw[V5];simp);have hp:(rec .ready).pending=none:=(by rw[V5]);obtain⟨u,k1,k2,kk,k3⟩:=cb #[] (sE (W1.heap.size+1)) hv e5;refine⟨u,seen P b.fn ((Instr.endLoop (W1.heap.size+1)).events P w #[]),?_,k2,kk,λe he=>lS (P:=P) k3 he⟩;simp[G,stepG,stepG.exec,Frame.at,k1,hp,GStep.after,a']
 exact hK _ _ W2 W3 W5 _ g02 YQ (by omega) U8 hX (r4.trans r5) (r5.heap _ _ (r4.heap _ _ hD3)) (r5.heap _ _ (r4.heap _ _ hL3))
end
section
variable {PP:Program}{C:Cx PP}{ρ UT:Names}{W W' w0:World}{r nm nt:Nat}
theorem HB.km(h:HB C ρ W){Z:Nat->Nat->Value->Prop}(hZ:∀b i c,Z b i c->W.cell? ⟨b,i,none⟩=some c∧c.oneCell'=true):HB C (ρ.km Z) W:=
 ⟨h.own,h.low,λb i c hz=>hz.elim (h.zok b i c) (hZ b i c),h.grd⟩
theorem c8.km{n:Nat}{sb:SB}(h:c8 ρ W n sb){Z:Nat->Nat->Value->Prop}(hZ:∀b i c,bY ρ n b->¬Z b i c):c8 (ρ.km Z) W n sb:=by
 cases sb with
 | gone=>trivial
 | lay cs ty=>obtain⟨b,vs,h1,h2,h3,h4,h5⟩:=h;exact⟨b,vs,h1,aJ Names.bw _ _ h2,h3,h4,λi c hz=>hz.elim (h5 i c) (hZ b i c (.inl h1))⟩
 | lst e sz N f ty=>
  obtain⟨l,h1,h2,h3,h4,h5⟩:=h;exact⟨l,h1,h2,h3,h4,λhc=>let ⟨b,u,k1,k2,k3,k4,k5,k6⟩:=h5 hc;⟨b,u,k1,k2,k3,k4,λi c hz=>hz.elim (k5 i c) (hZ b i c (.inr (.inl ⟨e,l,0,h1,h2,hc,k1⟩))),λi hi=>let ⟨us,q1,q2⟩:=k6 i hi;⟨us,aJ (Names.le.zo Names.bw) _ _ q1,q2⟩⟩⟩
 | mp k ag has g=>obtain⟨b,es,cl,h1,h2,h3,h4⟩:=h;exact⟨b,es,cl,h1,h2,h3,λx hx=>let ⟨m,q1,q2,u,q3,q4⟩:=h4.keys x hx;⟨m,q1,q2,u,aJ (Names.le.zo Names.bw) _ _ q3,q4⟩,h4.yes⟩
 | nst e sz N f p Vk g tk ty last=>exact na h hZ
def Names.own(Vx ρ:Names):Names:=⟨Vx.n,Vx.v,Vx.k,ρ.z,[],λb=>∃n,bY ρ n b⟩
theorem Mem.start{W1:World}{Vx:Names}(h:Mem C W1 Vx.VK nm ρ W):Mem C W (Vx.own ρ) nm ρ W:=
 ⟨h.hb,h.dom,h.domv,h.domk,⟨h.le.n,h.le.v,h.le.k,λ_ _ _ h=>h⟩,λn _ ho=>.inl (.inr ⟨n,ho⟩),λ_ _ _ hz=>.inl hz,.refl _ _⟩
theorem Mem.via{W1:World}{Vx WU:Names}{VE:Nat}(h:Mem C W1 Vx.VK nm ρ W)(k:Mem C W (Vx.own ρ) VE WU W'):Mem C W1 Vx.VK VE WU W':=by
 have hs:=h.keep.size;have WQ:∀b,jq (Vx.own ρ) b->jq Vx.VK b∨W1.heap.size<=b:=λb hm=>by
  rcases hm with ⟨n,hn⟩|⟨n,hn⟩
  exact .inl (.inl ⟨n,hn⟩);exact h.old n b hn
 refine⟨k.hb,k.dom,k.domv,k.domk,⟨k.le.n,k.le.v,k.le.k,λb i c x=>k.le.z b i c (h.le.z b i c x)⟩,λn b hn=>?_,λb i c hz=>?_,k.keep.os.trans h.keep.os,k.keep.tape.trans h.keep.tape,k.keep.output.trans h.keep.output,Nat.le_trans hs k.keep.size,λb hb hn=>?_⟩;rcases k.old n b hn with h1|h1;exact WQ b h1;exact .inr (by omega);rcases k.zold b i c hz with h1|h1|h1;exact h.zold b i c h1;exact .inr (.inl (by omega));rcases WQ b h1 with h2|h2;exact .inr (.inr h2);exact .inr (.inl h2);exact(k.keep.block b (by omega) λhm=>(WQ b hm).elim hn λh=>by omega).trans (h.keep.block b hb hn)
theorem Mem.wC{W1:World}{Vx WU:Names}{VE b:Nat}(k:Mem C W (Vx.own ρ) VE WU W')(h1:∀n,¬bY Vx n b)(h2:∀n,¬bY ρ n b)(hb:b<W.heap.size):(∀n,¬bY WU n b)∧W'.heap[b]? = W.heap[b]?:=by
 have hm:¬jq (Vx.own ρ) b:=λhm=>by
  rcases hm with ⟨n,hn⟩|⟨n,hn⟩
  exact h1 n hn;exact h2 n hn
 refine⟨λn ho=>?_,k.keep.block b hb hm⟩;rcases k.old n b ho with h|h;exact hm h;omega
end
def OK{PP:Program}(C:Cx PP)(gf:Nat)(cap:List SV)(n:Nat)(f:Nat->List SV):Prop:=
 ∀(l:Nat) (J:(Nat->Nat->Value->Prop)->Nat->World->Prop) (z:Nat->Nat->Value->Prop) (W:World) (vs:List Value),ao (aB z) cap vs->J z 0 W->
  (∀z k W,J z k W->C.Xe W∧∀b i c,z b i c->W.cell? ⟨b,i,none⟩=some c∧c.oneCell'=true)->
  (∀(z z':Nat->Nat->Value->Prop) k W W',J z k W->Gr W W'->(∀b i c,z' b i c->(z b i c∨W.heap.size<=b)∧W'.cell? ⟨b,i,none⟩=some c∧c.oneCell'=true)->J (λb i c=>z b i c∨z' b i c) k W')->
  (∀z k W us,J z k W->k<n->ao (aB z) (f k) us->La C.P C.co l us.toArray W λv W'=>v=.bool true∧J z (k+1) W')->
  bx C.P C.co gf (#[.func (.yield l) #[] #[]]++vs.toArray) W λe W'=>(∃v,e=.returned v)∧∃z,J z n W'
structure qQ where
 α:Type
 P:α->Prop
 idx:α->Nat
 H:α->bc
 nm:α->Nat
def qQ.J(c:qQ)(a:c.α):St:=⟨[],c.H a,c.nm a,0,[],[]⟩
def qQ.at_(c:qQ)(nm0:Nat)(k:Nat)(st:St):Prop:=∃(a:c.α) (σ:List (Nat×Nat)) (t:List Tr),c.idx a=k∧c.P a∧G1 nm0 σ (c.J a) (trs nm0 t st)
section
variable {PP:Program}{C:Cx PP}{Γ:List (UW C)}{nt:Nat}{I:Yj}{inls:List Nat}
def RInv(C:Cx PP)(c:qQ)(Vx:Names)(W1:World)(lr D:Nat)(o:Obj)(z:Nat->Nat->Value->Prop)(k:Nat)(W:World):Prop:=
 ∃a ρ,c.idx a=k∧c.P a∧(∀b i v,z b i v->ρ.z b i v)∧Mem C W1 Vx.VK (c.nm a) ρ W∧(∀n sb,look (c.H a) n=some sb->c8 ρ W n sb)∧(∀n,¬bY ρ n lr)∧(∀n,¬bY ρ n D)∧W.heap[lr]? = some o∧W.heap[D]? = some (.deferred (some []))
theorem qQ.at_.rp{c:qQ}{nm0 k:Nat}{st:St}{UT ρ:Names}{w0:World}{a:Act}{W:World}(Vl:∀n b,UT.n n=some b->n<nm0)(U3:∀e l,UT.v e=some l->e<nm0∧l.o<nm0)(U4:∀m i l,UT.k m i=some l->m<nm0)(h:c.at_ nm0 k st)(hr:Rp C nt w0 UT st ρ a W) :
  ∃b US,c.idx b=k∧c.P b∧Rp C nt w0 UT (c.J b) US a W:=by
 obtain⟨b,σ,t,hk,hp,hle⟩:=h;obtain⟨US,VX⟩:=vM (t:=t) Vl U3 U4 hr;exact⟨b,_,hk,hp,hle.rp Vl U3 U4 VX⟩
theorem RInv.gr{c:qQ}{Vx:Names}{W1 W W':World}{lr D:Nat}{o:Obj}{z z':Nat->Nat->Value->Prop}{k:Nat}(hi:RInv C c Vx W1 lr D o z k W)(gr:Gr W W')(Wc:∀b i c,z' b i c->(z b i c∨W.heap.size<=b)∧W'.cell? ⟨b,i,none⟩=some c∧c.oneCell'=true) :
  RInv C c Vx W1 lr D o (λb i c=>z b i c∨z' b i c) k W':=by
 obtain⟨b,ρ,h1,h2,h3,h4,h5,h6,h7,h8,h9⟩:=hi;refine⟨b,ρ.km (λb i v=>z' b i v∧W.heap.size<=b),h1,h2,λb i v hz=>?_,⟨(h4.hb.gr gr).km λb i v hz=>(Wc b i v hz.1).2,h4.dom,h4.domv,h4.domk,h4.le.trans Names.bw,h4.old,λb i v hz=>?_,h4.keep.gr gr⟩,λm sb hm=>?_,h6,h7,?_,?_⟩;rcases hz with hz|hz;exact .inl (h3 b i v hz);rcases (Wc b i v hz).1 with h|h;exact .inl (h3 b i v h);exact .inr ⟨hz,h⟩;rcases hz with hz|hz;exact h4.zold b i v hz;have:=h4.keep.size;exact .inr (.inl (by omega))
 ·have Vg:VY C (c.H b) ρ W:=⟨h4.hb,h5⟩
  exact((Vg.gr gr).blk m sb hm).km λb' i v ho hz=>by have:=(h4.hb.low m b' ho).2;omega
 exact(Below.block gr _ (E'.1 h8).1).trans h8;exact(Below.block gr _ (E'.1 h9).1).trans h9
def ig(rg:Nat):List Nat->List SV->List (Nat×Slot)
 | p::ps,v::vs=>(p,⟨rg,0,[],v⟩)::ig rg ps vs
 | _,_=>[]
def ub:List Nat->List Value->Array Value->Array Value
 | p::ps,u::us,t=>ub ps us (t.setIfInBounds p u)
 | _,_,t=>t
theorem uH:∀(ps:List Nat) (us:List Value) (t:Array Value),(ub ps us t).size=t.size
 | [],_,_=>rfl
 | _::_,[],_=>rfl
 | p::ps,u::us,t=>by rw[ub,uH ps us];simp
theorem vQ{t:Nat} : ∀(ps:List Nat) (us:List Value) (ts:Array Value),t ∉ ps->(ub ps us ts)[t]? = ts[t]?
 | [],_,_,_=>rfl
 | _::_,[],_,_=>rfl
 | p::ps,u::us,ts,h=>by rw[ub,vQ ps us _ λe=>h (UE _ e),Uu (λe=>h (by rw[<-e];exact Ut ..))]
theorem E0:∀(ps:List Nat) (us:List Value) (ts:Array Value),ps.length=us.length->(ps.toArray.zip us.toArray).foldl (λtmps (x:Tmp×Value)=>tmps.setIfInBounds x.1 x.2) ts=ub ps us ts:=by
 intro ps us ts h;have key:∀(ps:List Nat) (us:List Value) (ts:Array Value),(ps.zip us).foldl (λtmps (x:Tmp×Value)=>tmps.setIfInBounds x.1 x.2) ts=ub ps us ts:=by
  intro ps
  induction ps with
  | nil=>intro us ts;rfl
  | cons p ps ih=>
   intro us ts;cases us with
   | nil=>rfl
   | cons u us=>exact ih us _
 rw[<-key];simp
theorem uA{ρ:Names}{rg:Nat}{sl:List (Nat×Slot)}{t:Nat}{s:Slot} : ∀(ps:List Nat) (vs:List SV) (us:List Value) (ts:Array Value),ps.Nodup->ps.length=vs.length->(∀p∈ps,p<ts.size)->ao ρ vs us->look (ig rg ps vs++sl) t=some s->
  (t∈ps∧s.rg=rg∧∃x,den ρ s.v x∧(ub ps us ts)[t]? = some x)∨(t ∉ ps∧look sl t=some s)
 | [],_,_,_,_,_,_,_,h=>.inr ⟨List.not_mem_nil,h⟩
 | p::ps,[],_,_,_,hl,_,_,_=>by simp at hl
 | p::ps,v::vs,us,ts,hn,hl,U8,hd,h=>by
  obtain⟨u,Z6,rfl,Ws,WS⟩:=hd;obtain⟨hn1,hn2⟩:=List.nodup_cons.1 hn;have h:look ((p,⟨rg,0,[],v⟩)::(ig rg ps vs++sl)) t=some s:=h;by_cases e:p=t;subst e;rw[aj] at h;obtain rfl:=Oi h;refine .inl ⟨Ut ..,rfl,u,Ws,?_⟩;rw[ub,vQ ps Z6 _ hn1];have:=U8 p (Ut ..);simp[this];rw[ah _ _ e] at h;rcases uA ps vs Z6 (ts.setIfInBounds p u) hn2 (by simpa using hl) (λq hq=>by simpa using U8 q (UE _ hq)) WS h with ⟨h1,h2,h3⟩|⟨h1,h2⟩
  exact .inl ⟨UE _ h1,h2,h3⟩;exact .inr ⟨λhm=>by exact(UI.1 hm).elim (λq=>e q.symm) h1,h2⟩
theorem vA{nm0:Nat}{h:X1}{w0:World}{UT:Names}{E:Goroutine->World->Prop}{b:Frame}{cs:List Frame}{k:List Item}(hE:Closed C.P C.co E)(hm:C.P.follows .mixedOrders=true)(hI:eP C I)(hb:b.kind≠.early)(We:b.roundOf=none){g:Operand}{ps:List Nat}{VM body:Code}{gf:Nat}{cap:List SV}{n:Nat}{f:Nat->List SV}{c:qQ}{st:St}{Ds:List Nat}{Vx:Names}{a:Act}{W1:World}(A:AtR C nt w0 UT nm0 Ds st Vx a W1)
  (hg:qv st.sl g=some (.f (.func gf) [] cap)) (hpu:dq cap=true) (eg:∀args w,(callFunc gf args).run C.P w=.ok (.enter gf args) w) (ens:∀args,NS C.P (callFunc gf args))
  (hit:OK C gf cap n f) (Yu:ps.Nodup) (hp:∀p∈ps,p<nt) (hpl:∀k,ps.length=(f k).length) (hBa:eB h.fl VM=true) (hBb:eB h.fl body=true)
  (h0:c.at_ st.nm 0 st)
  (X6:∀b,c.P b->c.idx b<n->ev Γ nt st.nm I inls h VM ⟨ig st.rg ps (f (c.idx b))++st.sl,c.H b,c.nm b,st.rg,[],[]⟩ λe YM=>match e with
   | .normal=>ev Γ nt st.nm I inls h body YM λe Z9=>match e with
    | .normal=>c.at_ st.nm (c.idx b+1) Z9
    | _=>False
   | _=>False)
  (hK:∀x D US a' W',c.P x->c.idx x=n->AtR C nt w0 UT (c.nm x) (D::Ds) ⟨st.sl,c.H x,c.nm x,st.rg,[],[]⟩ US a' W'->E (G (b.at a' k) cs) W'):E (G (b.at a (.code (.rangeFunc g ps.toArray VM body)::k)) cs) W1:=by
 obtain⟨Vb,Yh,ZV⟩:=A.all;obtain⟨wa,ρa,ma,mka,hr⟩:=A.ex;obtain⟨u,lb,hu,VR,hga⟩:=gN hr hg;obtain rfl:=cq hu;have Vl:∀n b,Vx.n n=some b->n<st.nm:=Vb.dom;have U3:∀e l,Vx.v e=some l->e<st.nm∧l.o<st.nm:=Vb.domv;have U4:∀m i l,Vx.k m i=some l->m<st.nm:=Vb.domk;have hcapz:ao (aB Vx.z) cap lb:=cK _ _ hpu VR;have hno1:∀b,W1.heap.size<=b->∀n,¬bY Vx n b:=λb hb n ho=>by have:=(Vb.hb.low n b ho).2;omega
 have hself:Mem C W1 Vx.VK st.nm Vx W1:=Mem.refl Vb.hb Vl U3 U4;refine Nw (X:=λD l _ W'=>∃z,RInv C c Vx W1 l D (.loop (oh b.fn a.tmps ps.toArray VM body D .ready)) z n W') hE hb We hga eg ens (λD l W2 g2 hD hDl hl hD2 hL2=>?_) λD l W2 W3 W4 o g2 hD hDl hl hX r4 hD4 hl4=>?_
 ·-- Ye walk of Ye function
  have Ww:∀{ρb US:Names} {Wb W':World} {Vd:St} {a':Act} {k:Nat},Rp C nt Wb (Vx.own ρb) Vd US a' W'->c.at_ st.nm k Vd->l<Wb.heap.size->(∀n,¬bY ρb n l)->(∀n,¬bY ρb n D)->
    ∃b WU,c.idx b=k∧c.P b∧Mem C Wb (Vx.own ρb) (c.nm b) WU W'∧(∀n sb,look (c.H b) n=some sb->c8 WU W' n sb)∧(∀n,¬bY WU n l)∧(∀n,¬bY WU n D)∧W'.heap[l]? = Wb.heap[l]?∧W'.heap[D]? = Wb.heap[D]?:=by
   intro ρb US Wb W' Vd a' k VX hat Xl hn1 hn2;obtain⟨b,WU,h1,h2,h3⟩:=qQ.at_.rp (UT:=Vx.own ρb) Vl U3 U4 hat VX;obtain⟨k1,k2⟩:=h3.base.mem.wC (W1:=W1) (hno1 _ (by omega)) hn1 Xl;obtain⟨k3,k4⟩:=h3.base.mem.wC (W1:=W1) (hno1 _ (by omega)) hn2 (by omega);exact⟨b,WU,h1,h2,h3.base.mem,h3.base.blk,k1,k3,k2,k4⟩
  have Xm:Mem C W1 Vx.VK st.nm Vx W2:=hself.gr g2;have hstart:RInv C c Vx W1 l D (.loop (oh b.fn a.tmps ps.toArray VM body D .ready)) Vx.z 0 W2:=by
   have hrp:Rp C nt W2 (Vx.own Vx) st Vx {tmps:=a.tmps,defers:=[]} W2:=⟨⟨Xm.start,λn sb hn=>(hr.base.Vg.gr g2).blk n sb hn,hr.base.sz,rfl⟩,hr.rgs,hr.cC⟩
   obtain⟨b,WU,h1,h2,h3,h4,h5,h6,h7,h8⟩:=Ww hrp h0 hl (hno1 _ (by omega)) (hno1 _ (by omega));exact⟨b,WU,h1,h2,h3.le.z,Xm.via h3,h4,h5,h6,h7.trans hL2,h8.trans hD2⟩
  refine bx.mono (hit l (RInv C c Vx W1 l D (.loop (oh b.fn a.tmps ps.toArray VM body D .ready))) Vx.z W2 lb hcapz hstart ?_ ?_ ?_) ?_;rintro z k W ⟨b,ρ,h1,h2,h3,h4,-⟩;exact⟨h4.hb.grd,λb i v hz=>h4.hb.zok b i v (h3 b i v hz)⟩;intro z z' k W W' hi gr Wc;exact hi.gr gr Wc
  ·-- a round
   intro z k W us Xp Wp hu W5 r5;obtain⟨x,ρ,h1,h2,h3,h4,h5,h6,h7,h8,h9⟩:RInv C c Vx W1 l D (.loop (oh b.fn a.tmps ps.toArray VM body D .ready)) z k W5:=(by obtain⟨x,ρ,h1,h2,h3,h4,h5,h6,h7,h8,h9⟩:=Xp;have gr:=cZ r5;exact⟨x,ρ,h1,h2,h3,h4.gr gr,λm sb hm=>(VY.gr ⟨h4.hb,h5⟩ gr).blk m sb hm,h6,h7,r5.heap _ _ h8,r5.heap _ _ h9⟩);have hszW:l<W5.heap.size:=(E'.1 h8).1;have hul:ps.length=us.length:=(hpl k).trans (aF hu).symm;have hy:=run_yield (P:=C.P) (args:=us.toArray) h8 (by show us.toArray.size=ps.toArray.size;simp[hul]);replace hy:=hy.trans (Uv (λt=>Result.ok (Next.round l b.fn t VM body) W5) (E0 ps us a.tmps hul));have Zo:ao ρ (f (c.idx x)) us:=aJ (ρ:=aB z) ⟨λ_ _ h=>(by cases h),λ_ _ h=>(by cases h),λ_ _ _ h=>(by cases h),h3⟩ _ _ (by rw[h1];exact hu);have hrp:Rp C nt W5 (Vx.own ρ) ⟨ig st.rg ps (f (c.idx x))++st.sl,c.H x,c.nm x,st.rg,[],[]⟩ ρ {tmps:=ub ps us a.tmps,defers:=[]} W5:=by
    have key:=λt s hs=>uA (ρ:=ρ) (rg:=st.rg) (sl:=st.sl) (t:=t) (s:=s) ps (f (c.idx x)) us a.tmps Yu (hpl _) (λq hq=>by rw[hr.base.sz];exact hp q hq) Zo hs;refine⟨⟨h4.start,h5,by rw[<-hr.base.sz];exact uH ps us a.tmps,rfl⟩,λt s hs=>?_,λt s hs hg=>?_⟩
    ·rcases key t s hs with ⟨-,e,-⟩|⟨-,h⟩
     rw[e];exact I' _;exact hr.rgs t s h
    rcases key t s hs with ⟨-,-,h⟩|⟨hn,h⟩
    exact h;obtain⟨y,k1,k2⟩:=hr.cC t s h hg;exact⟨y,bM (ρ:=Vx) (US:=ρ) ⟨h4.le.n,h4.le.v,h4.le.k,h4.le.z⟩ _ _ k1,(vQ ps us a.tmps hn).trans k2⟩
   refine⟨b.fn,_,VM,body,hy,?_⟩;have hA:=cX (UT:=Vx.own ρ) hI hm Vl U3 U4 VM _ _ hBa (X6 x h2 (by rw[h1];exact Wp)) ρ _ W5 hrp;refine Ii (Mid:=λa2 W3=>∃YM WU,(ev Γ nt st.nm I inls h body YM λe Z9=>match e with|.normal=>c.at_ st.nm (c.idx x+1) Z9|_=>False)∧Rp C nt W5 (Vx.own ρ) YM WU a2 W3) (cR hA ?_) ?_
   ·rintro e a2 W3 ⟨y,YM,WU,rfl,XL,XK⟩;cases y with
    | exit i=>exact XL.elim
    | ret=>exact XL.elim
    | normal=>exact⟨rfl,YM,WU,XL,XK⟩
   rintro a2 W3' ⟨YM,WU,XL,hr2'⟩ W3 r3;have XK:=hr2'.later r3;obtain⟨o1,b1⟩:=XK.base.mem.wC (W1:=W1) (b:=l) (hno1 _ (by omega)) h6 hszW;obtain⟨o2,b2⟩:=XK.base.mem.wC (W1:=W1) (b:=D) (hno1 _ (by omega)) h7 (by omega);have hl3:=b1.trans h8;have hd3:=b2.trans h9;refine⟨_,run_beginRound hl3 rfl,?_⟩;have t34:=lG (.loop {oh b.fn a.tmps ps.toArray VM body D .ready with state:=.busy}) hl3 rfl rfl;have hm4:Mem C W1 Vx.VK YM.nm WU (W3.putObj l (.loop {oh b.fn a.tmps ps.toArray VM body D .ready with state:=.busy})):=(h4.via XK.base.mem).ju t34 (by omega);have hl4:(W3.putObj l (.loop {oh b.fn a.tmps ps.toArray VM body D .ready with state:=.busy})).heap[l]? = some (.loop {oh b.fn a.tmps ps.toArray VM body D .ready with state:=.busy}):=World.putObj_heap_same (E'.1 hl3).1;have hd4:(W3.putObj l (.loop {oh b.fn a.tmps ps.toArray VM body D .ready with state:=.busy})).heap[D]? = some (.deferred (some [])):=(World.putObj_heap_other (by omega)).trans hd3;have hrp4:Rp C nt (W3.putObj l (.loop {oh b.fn a.tmps ps.toArray VM body D .ready with state:=.busy})) (Vx.own WU) YM WU a2 (W3.putObj l (.loop {oh b.fn a.tmps ps.toArray VM body D .ready with state:=.busy})):=
    ⟨⟨hm4.start,λm sb hs=>(XK.base.blk m sb hs).ju t34,XK.base.sz,XK.base.df⟩,XK.rgs,XK.cC⟩
   have hB:=cX (UT:=Vx.own WU) hI hm Vl U3 U4 body _ _ hBb XL WU _ _ hrp4;refine cR hB ?_;rintro e a5 W6 ⟨y,Z9,ρ3,rfl,hev3,hr3⟩;cases y with
   | exit i=>exact hev3.elim
   | ret=>exact hev3.elim
   | normal=>
   refine⟨rfl,λW7 r7=>?_⟩;have hsz4:l<(W3.putObj l (.loop {oh b.fn a.tmps ps.toArray VM body D .ready with state:=.busy})).heap.size:=(E'.1 hl4).1;obtain⟨x',ρ5,q1,q2,q3,q4,q5,q6,q7,q8⟩:=Ww (hr3.later r7) hev3 hsz4 o1 o2;have hl5:=q7.trans hl4;have hd5:=q8.trans hd4;have t56:=lG (.loop { ({oh b.fn a.tmps ps.toArray VM body D .ready with state:=.busy} : Loop) with state:=if (none:Option Code).isNone then .ready else .done,pending:=none}) hl5 rfl rfl;refine⟨_,_,run_endRound (P:=C.P) none hl5,rfl,x',ρ5,q1.trans (by rw[h1]),q2,λb i v hz=>q3.le.z b i v (XK.base.mem.le.z b i v (h3 b i v hz)),(hm4.via q3).ju t56 (by omega),λm sb hs=>(q4 m sb hs).ju t56,q5,q6,?_,?_⟩;rw[World.putObj_heap_same (E'.1 hl5).1];rfl;exact(World.putObj_heap_other (by omega)).trans hd5
  rintro e W' ⟨⟨v,rfl⟩,z,hi⟩;have VZ:=hi;obtain⟨x,ρ,h1,h2,h3,h4,h5,h6,h7,h8,h9⟩:=VZ;exact⟨⟨v,rfl⟩,h9.trans hD2.symm,h8.trans hL2.symm,z,hi⟩
 ·-- behind it
  obtain⟨z,x,ρ,h1,h2,h3,h4,h5,h6,h7,h8,h9⟩:=hX;have gr4:=cZ r4;have t:=lG (.loop {o with state:=.exhausted}) hl4 rfl rfl;have hs:=Vb.keep.size;have hmW:Mem C W1 Vx.VK (c.nm x) ρ W4:=h4.gr gr4;have hmem3:Mem C w0 UT (c.nm x) ρ W4:=Vb.trans hmW;have WR:=hmem3.ju t (by omega);have hok4:VY C (c.H x) ρ W4:=VY.gr ⟨h4.hb,h5⟩ gr4;have hno3:∀D',D'<W1.heap.size->(∀n,¬bY Vx n D')->(∀n,¬bY ρ n D')∧W4.heap[D']? = W1.heap[D']?:=λD' Yn hn=>by
   have hm:¬jq Vx.VK D':=λhm=>by
    rcases hm with ⟨n,ho⟩|ho
    exact hn n ho;exact ho
   refine⟨λn ho=>?_,hmW.keep.block D' Yn hm⟩;rcases hmW.old n D' ho with h|h;exact hm h;omega
  refine hK x D ρ _ _ h2 h1 ⟨⟨_,ρ,WR,λD' Yn=>?_,⟨⟨⟨WR.hb,WR.dom,WR.domv,WR.domk,⟨λ_ _ h=>h,λ_ _ h=>h,λ_ _ _ h=>h,λ_ _ _ h=>h⟩,λn _ ho=>.inl (.inl ⟨n,ho⟩),λ_ _ _ hz=>.inl hz,.refl _ _⟩,λn sb hn=>(hok4.blk n sb hn).ju t,hr.base.sz,?_⟩,hr.rgs,λt s hs hg=>?_⟩⟩,?_⟩;rcases UI.1 Yn with rfl|Yn;refine⟨?_,h7,by omega⟩;rw[World.putObj_heap_other (by omega)];exact hD4;obtain⟨q1,q2,q3⟩:=ZV D' Yn;have U8:D'<W1.heap.size:=(E'.1 q1).1;obtain⟨q4,q5⟩:=hno3 D' U8 q2;refine⟨?_,q4,q3⟩;rw[World.putObj_heap_other (by omega)];exact q5.trans q1;show {target:=.collected D,args:=#[]}::a.defers=_;rw[Yh];rfl;obtain⟨y,k1,k2⟩:=hr.cC t s hs hg;exact⟨y,bM (ρ:=Vx) ⟨hmW.le.n,hmW.le.v,hmW.le.k,hmW.le.z⟩ _ _ k1,k2⟩;refine List.nodup_cons.2 ⟨λYn=>?_,A.nd⟩;have:=(E'.1 (ZV D Yn).1).1;omega
end
end Go.Proofs.YtgigkennhdolpaaGreatDoor
