/- Company, 22: what the trace keeps in a. -/
import Derived.Test.YtmdpdknpapjchaaGreatDoorM1
set_option linter.all false
namespace Go.Proofs.YtmdpdknpapjchaaGreatDoor
section
open Go.Conc
open Go.ConcR (stA smA)
variable {J Wg b dm dw i n:Nat}{Ch:Nat->Prop}{r:Rk}{pos:String}{t u:Trace}
def M7(Sh:Nat->Prop)(t:Trace)(k:Nat)(a:Touch)(b:Nat):Prop:=a.kind=.atomic∧(∃ad,a.loc=.cell ad)∧Sh b∧∀g,t.g? k=some g->g≠0->t.counts k->∃j,t.g? j=some 0∧HappensBefore t k j
structure Xw (J Wg:Nat) (Sh:Nat->Prop) (KJ:Trace->Nat->Prop) (dm dw:Nat) (t:Trace):Prop where
 d0:Deaf t 0=dm
 dJ:Deaf t J=dw
 norel:∀(k:Nat) (a:Addr),t.act? k≠some (.mark (.release a))
 wg:∀k a,touchAt t k=some a->kO a.loc=some Wg->(a.kind=.plain->Knows t 0 k∧Knows t J k)∧(a.kind=.said->Knows t 0 k)
 all:∀k a,touchAt t k=some a->∀b,kO a.loc=some b->Knows t 0 k∨KJ t k∨M7 Sh t k a b
section
variable {Sh:Nat->Prop}{KJ KJ':Trace->Nat->Prop}{dm' dw':Nat}{fn:FuncId}{es:Array Event}{S R:Nat->Prop}
theorem M7.app{k:Nat}{a:Touch}(hk:k<t.size)(h:M7 Sh t k a b):M7 Sh (t++u) k a b:=by
 obtain⟨h1,h2,h3,h4⟩:=h;refine⟨h1,h2,h3,λg hg XW hc=>?_⟩;obtain⟨j,hj,hb⟩:=h4 g (by simpa[Trace.g?,getElem?_append_old hk] using hg) XW ((counts_old hk).1 hc);have hjl:j<t.size:=by unfold Trace.g? at hj;obtain⟨z,hz,_⟩:=Option.map_eq_some_iff.1 hj;exact lt_size_of_getElem? hz
 exact⟨j,by simpa[Trace.g?,getElem?_append_old hjl] using hj,hb_app u hb⟩
theorem Xw.app(h:Xw J Wg Sh KJ dm dw t)(h0:Deaf (t++u) 0=dm')(hJ:Deaf (t++u) J=dw')(hrel:∀op∈u,∀a:Addr,op.act≠.mark (.release a))
  (hwg:∀op∈u,∀x,op.act.touch? = some x->kO x.loc=some Wg->x.kind≠.plain∧(x.kind=.said->op.g=0)) (hKJ:∀k,KJ t k->KJ' (t++u) k)
  (X8:∀(p:Nat) (op:MemOp),(t++u)[p]? = some op->t.size<=p->op∈u->∀x,op.act.touch? = some x->∀b,kO x.loc=some b->op.g=0∨KJ' (t++u) p∨M7 Sh (t++u) p x b):Xw J Wg Sh KJ' dm' dw' (t++u):=by
 refine⟨h0,hJ,mY h.norel hrel,λk a hk hb=>?_,λk a hk b hb=>?_⟩
 ·obtain⟨x,hx,hxa⟩:=touch_of hk;rcases getElem?_append_cases hx with ⟨_,Zy⟩|⟨_,hxu⟩
  obtain⟨q1,q2⟩:=h.wg k a (by rw[touchAt_of Zy];exact hxa) hb;exact⟨λe=>⟨(q1 e).1.app u,(q1 e).2.app u⟩,λe=>(q2 e).app u⟩;obtain⟨q1,q2⟩:=hwg x hxu a hxa hb;exact⟨λe=>P' e q1,λe=>by have:=knows_own hx;rwa [q2 e] at this⟩
 obtain⟨x,hx,hxa⟩:=touch_of hk;rcases getElem?_append_cases hx with ⟨X0,Zy⟩|⟨hge,hxu⟩
 rcases h.all k a (by rw[touchAt_of Zy];exact hxa) b hb with z|z|z;exact .inl (z.app u);exact .inr (.inl (hKJ k z));exact .inr (.inr (z.app X0));rcases X8 k x hx hge hxu a hxa b hb with z|z|z;have:=knows_own hx;rw[z] at this;exact .inl this;exact .inr (.inl z);exact .inr (.inr z)
theorem Deaf_quiet{g:Nat}(hq:∀op∈u,∀d,deafStep g d op=d):Deaf (t++u) g=Deaf t g:=by
 have:=deaf_quiet (t:=t) (u:=u) (g:=g) hq u.size (F2 _);unfold Deaf at this ⊢
 rwa [Array.size_append]
theorem Lw{e:Event}(h:EvS S R n e):∀m,MemAct.ofEvent e≠.mark m∨m=.noRoom:=by
 obtain⟨loc,wr,sy⟩:=e;intro m;cases loc with
 | cell a=>exact .inl (by simp[MemAct.ofEvent])
 | obj r=>exact .inl (by cases wr<;>cases sy<;>simp[MemAct.ofEvent])
 | mark m'=>
  have h:m'=.noRoom:=h;subst h;by_cases e:m=.noRoom;exact .inr e;exact .inl (by simp[MemAct.ofEvent];exact λx=>e x.symm)
 | output=>exact h.elim
 | goroutines=>exact h.elim
theorem AW{e:Event}(h:EvS S R n e)(g d k:Nat):deafStep g d {g:=k,fn,pos,act:=.ofEvent e} = d:=by
 unfold deafStep;have hw:=Lw h;cases ha:MemAct.ofEvent e with
 | mark m=>
  cases m<;>first|rfl|(rcases hw _ with x|x<;>first|(exact P' ha x)|(cases x))
 | _=>rfl
theorem Xw.own(h:Xw J Wg Sh KJ dm dw t)(hS:S Wg)(he:∀e∈es,EvS S R n e)(hKJ:∀(u:Trace) k,KJ t k->KJ (t++u) k)(hi:i=0∨∀(u:Trace) (p:Nat) (y:MemOp),(t++u)[p]? = some y->y.g=i->(∀(x:Touch) (b:Nat),y.act.touch? = some x->kO x.loc=some b->¬S b)->KJ (t++u) p):Xw J Wg Sh KJ dm dw (t++MemOp.ofEvents i fn pos es):=by refine h.app ((Deaf_quiet λop XZ d=>?_).trans h.d0) ((Deaf_quiet λop XZ d=>?_).trans h.dJ) (λop XZ=>?_) (λop XZ x hx hb=>?_) (λk z=>hKJ _ k z) λp op hp _ XZ x hx b hb=>?_;obtain⟨e,ZX,rfl⟩:=Go.Conc.mem_ofEvents XZ;exact AW (he e ZX) _ _ _;obtain⟨e,ZX,rfl⟩:=Go.Conc.mem_ofEvents XZ;exact AW (he e ZX) _ _ _;obtain⟨e,ZX,rfl⟩:=Go.Conc.mem_ofEvents XZ;exact w7 (he e ZX);obtain⟨e,ZX,rfl⟩:=Go.Conc.mem_ofEvents XZ;exact P' hS (nj (he e ZX) hx hb).1;obtain⟨e,ZX,rfl⟩:=Go.Conc.mem_ofEvents XZ;rcases hi with rfl|hi;exact .inl rfl;exact .inr (.inl (hi _ p _ hp rfl λx b hx hb=>(nj (he e ZX) hx hb).1))
theorem Xw.mute(h:Xw J Wg Sh KJ dm dw t)(Z0:i≠0)(hiJ:i≠J)(he:∀e∈es,Event.mute e=true)(hKJ:∀(u:Trace) k,KJ t k->KJ (t++u) k):Xw J Wg Sh KJ dm dw (t++MemOp.ofEvents i fn pos es):=by
 have hg:∀op∈MemOp.ofEvents i fn pos es,op.g=i:=λop XZ=>by obtain⟨e,_,rfl⟩:=Go.Conc.mem_ofEvents XZ;rfl
 refine h.app ((Deaf_other t Z0 _ hg).trans h.d0) ((Deaf_other t hiJ _ hg).trans h.dJ) (λop XZ=>?_) (λop XZ x hx hb=>?_) (λk z=>hKJ _ k z) λp op hp _ XZ x hx b hb=>?_;obtain⟨e,ZX,rfl⟩:=Go.Conc.mem_ofEvents XZ;exact tW (he e ZX);obtain⟨e,ZX,rfl⟩:=Go.Conc.mem_ofEvents XZ;rw[touch_mute (he e ZX)] at hx;cases hx;obtain⟨e,ZX,rfl⟩:=Go.Conc.mem_ofEvents XZ;rw[touch_mute (he e ZX)] at hx;cases hx
end
open Go.ConcN (sumTo upd sumTo_upd upd_ne upd_same)
def cwP(P:Program)(J Wg:Nat)(Sh Rm:Nat->Prop)(L:Nat->Prop)(Q:Nat->Goroutine->World->Prop)(Zb:Nat->Prop)(z:Nat->Option Obj)(dm dw:Nat)(KJ:Trace->Nat->Prop)(Ex:(Nat->Nat->Prop)->Nat->Prop)(w0:World)
  (later:∀{i:Nat} {g:Goroutine} {W W1:World},Q i g W->Rv W W1->Q i g W1)
  (Cd:∀{i:Nat} {g p p':Goroutine} {W w':World},Q i g W->(∀b,Zb b->w'.heap[b]? = z b)->Q i (woken P p p' w' g) W)
  (kj:∀(t u:Trace) (k:Nat),KJ t k->KJ (t++u) k) (ko:J≠0->¬L J->∀(S:Nat->Nat->Prop) (n:Nat),Ex S n->∀(t:Trace) (p:Nat) (y:MemOp),t[p]? = some y->y.g=J->(∀(x:Touch) (b:Nat),y.act.touch? = some x->kO x.loc=some b->¬S J b)->KJ t p)
  (ex:∀{S:Nat->Nat->Prop} {n n' i:Nat},i=0∨i=J->¬L i->n<=n'->Ex S n->Ex (λj b=>S j b∨(j≠i∧n<=b∧b<n')) n'):Cw P where
 act:=λi=>i=0∨i=J
 zero:=.inl rfl
 lib:=L
 w0:=w0
 Q:=Q
 R:=λ_=>Rm
 Zb:=Zb
 z:=z
 Iv:=λS n t=>Kn (λi=>i=0∨i=J) (λ_=>Rm) S n t∧Xw J Wg Sh KJ dm dw t∧(∀i,i=0∨i=J->S i Wg)∧Ex S n
 later:=later
 Cd:=Cd
 own:=λha hl h hn hd he=>⟨h.1.own ha hn hd he,h.2.1.own (h.2.2.1 _ ha) he (λu k z=>kj _ u k z) (by
  rcases ha with e|e;exact .inl e;by_cases h0:J=0;exact .inl (e.trans h0)
  ·exact .inr λu p y hy hg hs=>ko h0 (e▸hl) _ _ h.2.2.2 _ p y hy (hg.trans e) λx b hx hb=>e▸hs x b hx hb),λi hi=>.inl (h.2.2.1 i hi),ex ha hl hn h.2.2.2⟩
 mute:=λha h hm=>⟨h.1.mute hm,h.2.1.mute (λe=>ha (.inl e)) (λe=>ha (.inr e)) hm (λu k z=>kj _ u k z),h.2.2⟩
section
variable {P:Program}{C C':Cw P}{gs Yn:Array Goroutine}{w w' W:World}{S:Nat->Nat->Prop}{V:Nat->World}{rk rk':Nat->Rk}{q:Nat->Nat}{j:Nat}{g g' g1 g2:Goroutine}
structure qQ (Zb:Nat->Prop) (w w':World):Prop where
 size:w'.heap.size=w.heap.size
 heap:∀b:Nat,¬Zb b->w'.heap[b]? = w.heap[b]?
 os:w'.os=w.os
 tape:w'.tape=w.tape
 output:w'.output=w.output
theorem qQ.refl(Zb:Nat->Prop)(w:World):qQ Zb w w:=⟨rfl,λ_ _=>rfl,rfl,rfl,rfl⟩
theorem View.Q0{S R Zb:Nat->Prop}(h:View S R w W)(k:qQ Zb w w')(hz:∀b,Zb b->S b):View S R w' (W.at w'.drawn):=
 ⟨k.tape.trans h.tape,rfl,k.os.trans h.os,k.output.trans h.output,k.size.trans h.size,λb h1 h2=>(k.heap b λx=>h1 (hz b x)).trans (h.same b h1 h2),λb h1 h2=>by rw[k.heap b λx=>h1 (hz b x)];exact h.lent b h1 h2,h.pois,h.plain⟩
theorem bC.re(h:bC C gs w t S V rk q)(hw0:C'.w0=C.w0)(Yx:∀j,C'.act j↔C.act j)(hR:C'.R=C.R)(hs:Yn.size=gs.size)(hch:∀b,Ch b->∀j,C.act j->S j b)(hw:qQ Ch w w')(walk:∀(j:Nat) (y:Goroutine),C.act j->Yn[j]? = some y->ZP P (C'.Q j) (rk' j) y (V j))(zb:∀b:Nat,C'.Zb b->(∀j,C.act j->S j b∨C.R j b)∧w'.heap[b]? = C'.z b)(old:∀(j:Nat) (y:Goroutine),¬C.act j->Yn[j]? = some y->QuitsD P (q j) (Deaf t j) y)(hu:∀op∈u,C.act op.g∧op.g<gs.size)(iv:C'.Iv S w.heap.size (t++u))(still:∀j:Nat,C'.lib j->rk' j=.leaf):bC C' Yn w' (t++u) S (λj=>(V j).at w'.drawn) rk' q:=by
 have hdf:∀j,(¬C.act j∨gs.size<=j)->Deaf (t++u) j=Deaf t j:=λj hj=>Deaf_quiet λop XZ d=>by have XW:op.g≠j:=λe=>(by obtain⟨h1,h2⟩:=hu op XZ;rcases hj with hj|hj;exact hj (e▸h1);omega);unfold deafStep;split<;>first|rfl|exact Xk XW
 refine⟨λk y hk hy=>ZP.at_ (Q:=C'.Q k) (λh r=>C'.later h r) (walk k y ((Yx k).1 hk) hy) _,λk hk=>?_,λa b ha hb XW x hx=>?_,λb hb=>⟨λk hk=>by rw[hR];exact(zb b hb).1 k ((Yx k).1 hk),(zb b hb).2⟩,λk y hk hy=>?_,λk hk=>?_,by rw[hw.size];exact iv,still,λk hk=>by rw[hs];exact h.here k ((Yx k).1 hk),by rw[hw0];exact⟨hw.os.trans h.base.os,hw.tape.trans h.base.tape,hw.output.trans h.base.output⟩⟩;rw[hR];exact(h.view k ((Yx k).1 hk)).Q0 hw λb hb=>hch b hb k ((Yx k).1 hk);rw[hR];exact h.apart a b ((Yx a).1 ha) ((Yx b).1 hb) XW x (by rw[<-hw.size];exact hx);rw[hdf k (.inl λx=>hk ((Yx k).2 x))];exact old k y (λx=>hk ((Yx k).2 x)) hy;rw[hdf k (.inr (by rw[<-hs];exact hk))];exact h.above k (by rw[<-hs];exact hk)
theorem nc{p p':Goroutine}{y:Goroutine}(h:((gs.map (woken P p p' w')).setIfInBounds i g')[j]? = some y):(j=i∧i<gs.size∧y=g')∨(j≠i∧∃x,gs[j]? = some x∧y=woken P p p' w' x):=by by_cases e:j=i;subst e;by_cases hl:j<gs.size;rw[Array.getElem?_setIfInBounds_self_of_lt (by simpa using hl)] at h;exact .inl ⟨rfl,hl,(Oi h).symm⟩;rw[Array.getElem?_eq_none (by simpa using hl)] at h;cases h;rw[M' (Ne.symm e),Array.getElem?_map] at h;obtain⟨x,hx,rfl⟩:=Option.map_eq_some_iff.1 h;exact .inr ⟨e,x,hx,rfl⟩
theorem lJ{y:Goroutine}(h:(gs.setIfInBounds i g')[j]? = some y):(j=i∧i<gs.size∧y=g')∨(j≠i∧gs[j]? = some y):=by by_cases e:j=i;subst e;by_cases hl:j<gs.size;rw[Array.getElem?_setIfInBounds_self_of_lt hl] at h;exact .inl ⟨rfl,hl,(Oi h).symm⟩;rw[Array.getElem?_eq_none (by simpa using hl)] at h;cases h;rw[M' (Ne.symm e)] at h;exact .inr ⟨e,h⟩
theorem bC.Oe(h:bC C gs w t S V rk q)(hw0:C'.w0=C.w0)(Yx:∀j,C'.act j↔C.act j)(hR:C'.R=C.R)(hch:∀b,Ch b->∀j,C.act j->S j b)(hw:qQ Ch w w'){p p':Goroutine}(ha:C.act i)(hi:gs[i]? = some g)(hg:ZP P (C'.Q i) r g' (V i))(walk:∀(j:Nat) (y:Goroutine),C.act j->j≠i->gs[j]? = some y->ZP P (C'.Q j) (rk j) (woken P p p' w' y) (V j))(zb:∀b:Nat,C'.Zb b->(∀j,C.act j->S j b∨C.R j b)∧w'.heap[b]? = C'.z b){fn:FuncId}{es:Array Event}(iv:C'.Iv S w.heap.size (t++MemOp.ofEvents i fn pos es))(still:∀j:Nat,C'.lib j->(j≠i->rk j=.leaf)∧(j=i->r=.leaf)) :
  bC C' ((gs.map (woken P p p' w')).setIfInBounds i g') w' (t++MemOp.ofEvents i fn pos es) S (λj=>(V j).at w'.drawn) (upd rk i r) q:=by
 have X0:i<gs.size:=(E'.1 hi).1;refine h.re hw0 Yx hR (by simp) hch hw (λk y hk hy=>?_) zb (λk y hk hy=>?_) (λop XZ=>by obtain⟨e,_,rfl⟩:=Go.Conc.mem_ofEvents XZ;exact⟨ha,X0⟩) iv λk hk=>?_
 ·rcases nc hy with ⟨rfl,_,rfl⟩|⟨e,x,hx,rfl⟩
  rw[upd_same];exact hg;rw[upd_ne rk r e];exact walk k x hk e hx
 ·rcases nc hy with ⟨rfl,_,rfl⟩|⟨e,x,hx,rfl⟩
  exact(hk ha).elim;rw[woken_quitsD (h.old k x hk hx)];exact h.old k x hk hx
 by_cases e:k=i;subst e;rw[upd_same];exact(still k hk).2 rfl;rw[upd_ne rk r e];exact(still k hk).1 e
theorem bC.Ev(h:bC C gs w t S V rk q)(hw0:C'.w0=C.w0)(Yx:∀j,C'.act j↔C.act j)(hR:C'.R=C.R)(hch:∀b,Ch b->∀j,C.act j->S j b)(hw:qQ Ch w w')(ha:C.act i)(hi:gs[i]? = some g)(hg:ZP P (C'.Q i) r g' (V i))(walk:∀(j:Nat) (y:Goroutine),C.act j->j≠i->gs[j]? = some y->ZP P (C'.Q j) (rk j) y (V j))(zb:∀b:Nat,C'.Zb b->(∀j,C.act j->S j b∨C.R j b)∧w'.heap[b]? = C'.z b)(hu:∀op∈u,op.g=i)(iv:C'.Iv S w.heap.size (t++u))(still:∀j:Nat,C'.lib j->(j≠i->rk j=.leaf)∧(j=i->r=.leaf)) :
  bC C' (gs.setIfInBounds i g') w' (t++u) S (λj=>(V j).at w'.drawn) (upd rk i r) q:=by
 have X0:i<gs.size:=(E'.1 hi).1;refine h.re hw0 Yx hR (by simp) hch hw (λk y hk hy=>?_) zb (λk y hk hy=>?_) (λop XZ=>by rw[hu op XZ];exact⟨ha,X0⟩) iv λk hk=>?_
 ·rcases lJ hy with ⟨rfl,_,rfl⟩|⟨e,hx⟩
  rw[upd_same];exact hg;rw[upd_ne rk r e];exact walk k y hk e hx
 ·rcases lJ hy with ⟨rfl,_,rfl⟩|⟨e,hx⟩
  exact(hk ha).elim;exact h.old k y hk hx
 by_cases e:k=i;subst e;rw[upd_same];exact(still k hk).2 rfl;rw[upd_ne rk r e];exact(still k hk).1 e
theorem bC.JD(h:bC C gs w t S V rk q)(hw0:C'.w0=C.w0)(Yx:∀j,C'.act j↔C.act j)(hR:C'.R=C.R)(hch:∀b,Ch b->∀j,C.act j->S j b)(hw:qQ Ch w w')(ha:C.act i)(hb:C.act j)(hij:j≠i)(hi:i<gs.size)(hj:j<gs.size)(X8:∀k,C.act k->k=i∨k=j){r1 r2:Rk}(h1:ZP P (C'.Q i) r1 g1 (V i))(h2:ZP P (C'.Q j) r2 g2 (V j))(zb:∀b:Nat,C'.Zb b->(∀j,C.act j->S j b∨C.R j b)∧w'.heap[b]? = C'.z b)(hu:∀op∈u,op.g=i∨op.g=j)(iv:C'.Iv S w.heap.size (t++u))(still:∀j:Nat,¬C'.lib j) :
  bC C' ((gs.setIfInBounds j g2).setIfInBounds i g1) w' (t++u) S (λj=>(V j).at w'.drawn) (upd (upd rk j r2) i r1) q:=by
 refine h.re hw0 Yx hR (by simp) hch hw (λk y hk hy=>?_) zb (λk y hk hy=>?_) (λop XZ=>?_) iv λk hk=>(still k hk).elim
 ·rcases lJ hy with ⟨rfl,_,rfl⟩|⟨e,hx⟩
  rw[upd_same];exact h1;rcases lJ hx with ⟨rfl,_,rfl⟩|⟨e',Zy⟩
  rw[upd_ne _ _ e,upd_same];exact h2;exact((X8 k hk).elim (λx=>e x) λx=>e' x).elim
 ·rcases lJ hy with ⟨rfl,_,rfl⟩|⟨e,hx⟩
  exact(hk ha).elim;rcases lJ hx with ⟨rfl,_,rfl⟩|⟨e',Zy⟩
  exact(hk hb).elim;exact h.old k y hk Zy
 rcases hu op XZ with e|e;rw[e];exact⟨ha,hi⟩;rw[e];exact⟨hb,hj⟩
end
open Go.ConcR (stA smA)
def BU(Wg n dw:Nat)(op:MemOp):Prop:=
 (∀a:Addr,op.act≠.mark (.release a))∧op.act.low n∧(op.act.touch? = none∨(∃a wr,op.act=.access ⟨.cell a,wr,true⟩∧a.block=Wg∧(op.g=0∨dw≠0))∨(op.g=0∧∃a:Addr,(op.act=.mark (.read a)∨op.act=.mark (.write a))∧a.block=Wg))
def ivP(J Wg:Nat)(Sh Rm:Nat->Prop)(dm dw:Nat)(KJ:Trace->Nat->Prop)(Ex:(Nat->Nat->Prop)->Nat->Prop)(S:Nat->Nat->Prop)(n:Nat)(t:Trace):Prop:=
 Kn (λi=>i=0∨i=J) (λ_=>Rm) S n t∧Xw J Wg Sh KJ dm dw t∧(∀i,i=0∨i=J->S i Wg)∧Ex S n
section
variable {Sh Rm:Nat->Prop}{KJ KJ':Trace->Nat->Prop}{Ex:(Nat->Nat->Prop)->Nat->Prop}{S:Nat->Nat->Prop}{op:MemOp}
theorem BU.blk(h:BU Wg n dw op){x:Touch}(hx:op.act.touch? = some x):(∃a,x.loc=.cell a∧a.block=Wg)∧x.kind≠.plain∧(x.kind=.said->op.g=0)∧(x.kind=.atomic->op.g=0∨dw≠0):=by obtain⟨-,-,h|⟨a,wr,h1,h2,h3⟩|⟨h1,a,h2|h2,h3⟩⟩:=h;rw[h] at hx;cases hx;rw[h1] at hx;simp only[MemAct.touch?,Option.some.injEq] at hx;subst hx;exact⟨⟨a,rfl,h2⟩,by simp,by simp,λ_=>h3⟩;rw[h2] at hx;simp only[MemAct.touch?,Option.some.injEq] at hx;subst hx;exact⟨⟨a,rfl,h3⟩,by simp,λ_=>h1,by simp⟩;rw[h2] at hx;simp only[MemAct.touch?,Option.some.injEq] at hx;subst hx;exact⟨⟨a,rfl,h3⟩,by simp,λ_=>h1,by simp⟩
theorem vd{x:Touch}{a:Addr}(h:x.loc=.cell a)(hb:kO x.loc=some b):a.block=b:=by rw[h] at hb;exact Oi hb
theorem Xw.lib(h:Xw J Wg Sh KJ dm dw t)(Za:Sh Wg)(hl:BU Wg n dw op)(hi:op.g=0∨op.g=J)(hKJ:∀k,KJ t k->KJ' (t++#[op]) k):Xw J Wg Sh KJ' (deafStep 0 dm op) (deafStep J dw op) (t++#[op]):=by
 refine h.app (by rw[Deaf_push,h.d0]) (by rw[Deaf_push,h.dJ]) (λo ho=>?_) (λo ho x hx hb=>?_) hKJ λp o hp hge ho x hx b hb=>?_;simp at ho;rw[ho];exact hl.1;simp at ho;subst ho;exact⟨(hl.blk hx).2.1,(hl.blk hx).2.2.1⟩;simp at ho;subst ho;obtain⟨⟨a,h1,h2⟩,h3,h4,h5⟩:=hl.blk hx;rcases hi with hi|hi;exact .inl hi;cases hk:x.kind with
 | plain=>exact P' hk h3
 | said=>exact .inl (h4 hk)
 | atomic=>
  rcases h5 hk with z|z;exact .inl z;refine .inr (.inr ⟨hk,⟨a,h1⟩,by rw[<-vd h1 hb,h2];exact Za,λg hg XW hc=>?_⟩);exfalso;obtain⟨x',Zy,-,hh⟩:=hc;obtain⟨y,hy,hyx⟩:=touch_of Zy;have hpe:p=t.size:=(by have:=lt_size_of_getElem? hp;simp at this;omega);rcases hh with hh|⟨g',hg',hd⟩
  rw[hp] at hy;obtain rfl:=Oi hy;rw[hx] at hyx;exact hh (Oi hyx▸hk);have e:g'=J:=(by have:(t++#[o]).g? p=some o.g:=(by unfold Trace.g?;rw[hp];rfl);rw[this] at hg';exact(Oi hg').symm.trans hi);rw[e,hpe,deaf_old (F2 _)] at hd;exact z (h.dJ.symm.trans hd)
theorem Kn.lib{act:Nat->Prop}{R:Nat->Nat->Prop}(h:Kn act R S n t)(hx:Xw J Wg Sh KJ dm dw t)(hS:∀i,act i->S i Wg)(hl:BU Wg n dw op)(hi:op.g=0∨op.g=J):Kn act R S n (t++#[op]):=by
 refine h.VO (i:=op.g) (λo ho=>by simp at ho;rw[ho]) (λsaid k a hk o ho b hb hc=>?_) (λo ho b hb b0 hb0 j hj _=>?_) (λo ho=>by simp at ho;rw[ho];exact hl.2.1)
 ·simp at ho;subst ho;obtain⟨⟨ad,h1,h2⟩,h3,h4,h5⟩:=hl.blk hb;have YN:kO a.loc=some Wg:=(by rw[hc.1,h1];show some ad.block=_;rw[h2]);obtain⟨k1,k2⟩:=hx.wg k a hk YN;rcases hc.2.2.2 with c|c|⟨_,c1,c2⟩
  rcases hi with e|e;rw[e];exact(k1 c).1;rw[e];exact(k1 c).2;exact P' c h3;rw[h4 c2];exact k2 c1
 simp at ho;subst ho;obtain⟨⟨ad,h1,h2⟩,-⟩:=hl.blk hb;rw[<-vd h1 hb0,h2];exact hS j hj
theorem ivP.lib(h:ivP J Wg Sh Rm dm dw KJ Ex S n t)(Za:Sh Wg)(hl:BU Wg n dw op)(hi:op.g=0∨op.g=J)(kj:∀k,KJ t k->KJ' (t++#[op]) k):ivP J Wg Sh Rm (deafStep 0 dm op) (deafStep J dw op) KJ' Ex S n (t++#[op]):=
 ⟨h.1.lib h.2.1 h.2.2.1 hl hi,h.2.1.lib Za hl hi kj,h.2.2⟩
theorem ivP.still(h:ivP J Wg Sh Rm dm dw KJ Ex S n t)(hu:∀op∈u,op.act.touch? = none∧op.act.low n∧∀m,op.act≠.mark m)(kj:∀k,KJ t k->KJ' (t++u) k):ivP J Wg Sh Rm dm dw KJ' Ex S n (t++u):=by
 have hd:∀g,Deaf (t++u) g=Deaf t g:=λg=>Deaf_quiet λop XZ d=>by have:=(hu op XZ).2.2;unfold deafStep;split<;>first|rfl|(rename_i e;exact P' e (this _))
 refine⟨?_,h.2.1.app ((hd 0).trans h.2.1.d0) ((hd J).trans h.2.1.dJ) (λop XZ _=>(hu op XZ).2.2 _) (λop XZ x hx=>by rw[(hu op XZ).1] at hx;cases hx) kj (λp op hp _ XZ x hx=>by rw[(hu op XZ).1] at hx;cases hx),h.2.2⟩;have:=h.1.still (l:=u.toList) λop XZ=>⟨(hu op (by simpa using XZ)).1,(hu op (by simpa using XZ)).2.1⟩
 simpa using this
end
end
section
open Go.Conc Go.ConcN
open Go.ConcR (KK wgBlock WgAt stA smA rd wr mk DC0)
variable {g:Goroutine}{op:MemOp}{J Wg c n n0:Nat}{S:Nat->Nat->Prop}{Sst Zf:Nat->Prop}{P:Program}{bl:Prop}{t:Trace}{ty:TypeId}{w w':World}
inductive MK where|own|kd|ld|cas|wr|sem|ld2|ke|aq|fin|fini
deriving DecidableEq
variable {m mk:MK}
inductive WK where|rc|dn|rel|k1|dec|l1|st|rs|gone
deriving DecidableEq
variable {k wk:WK}
def MK.dS:MK->Nat|own=>20|kd=>19|ld=>18|cas=>17|wr=>16|sem=>15|ld2=>14|ke=>13|aq=>12|fin=>11|fini=>11
def MK.fuel:MK->Nat->Nat|fin,n=>2*n+1|fini,n=>2*n|_,n=>n
def WK.dS:WK->Nat|rc=>9|dn=>8|rel=>7|k1=>6|dec=>5|l1=>4|st=>3|rs=>2|gone=>0
def MK.reg:MK->Bool|wr=>true|sem=>true|_=>false
def MK.deaf:MK->Nat|ld=>1|cas=>1|wr=>1|sem=>1|ld2=>1|ke=>1|_=>0
def WK.lib:WK->Bool|rc=>false|dn=>false|gone=>false|_=>true
def WK.deaf:WK->Nat|rc=>0|dn=>0|rel=>0|k1=>0|_=>1
def stV:MK->WK->Int
 | m,.rc=>if m.reg then KK+1 else KK
 | m,.dn=>if m.reg then KK+1 else KK
 | m,.rel=>if m.reg then KK+1 else KK
 | m,.k1=>if m.reg then KK+1 else KK
 | m,.dec=>if m.reg then KK+1 else KK
 | _,.l1=>1
 | _,.st=>1
 | _,.rs=>0
 | _,.gone=>0
def smV:MK->WK->Int
 | m,.gone=>if m.reg then 1 else 0
 | _,_=>0
def dC:MK->WK->Prop
 | m,.rc|m,.dn|m,.rel|m,.k1|m,.dec=>m=.own∨m=.kd∨m=.ld∨m=.cas∨m=.wr∨m=.sem
 | m,.l1|m,.st|m,.rs=>m=.wr∨m=.sem
 | _,.gone=>True
section
variable (P:Program)(ty:TypeId)(Wg:Nat)(Fin:Goroutine->Prop)
def QM(bl:Prop):MK->Nat->Goroutine->Prop
 | .own,_,g=>pJ P true ty Wg Fin g
 | .kd,n,g=>Lqn P true ty Wg (AMk P true .disable (Lq P true ty Wg (Nr P true ty Wg (kS P true ty Wg Fin) (MT P true ty Wg Fin)))) n g
 | .ld,n,g=>Lqn P true ty Wg (Nr P true ty Wg (kS P true ty Wg Fin) (MT P true ty Wg Fin)) n g
 | .cas,n,g=>Lqn P true ty Wg (VZ P true ty Wg (QK P true ty Wg Fin) (Lq P true ty Wg (ALd P true ty Wg (kS P true ty Wg Fin)))) n g
 | .wr,n,g=>Lqn P true ty Wg (AMk P true (.write (smA Wg)) (Lq P true ty Wg (D9 P true ty Wg (Lq P true ty Wg (ALd P true ty Wg (kS P true ty Wg Fin)))))) n g
 | .sem,n,g=>Lqn P true ty Wg (D9 P true ty Wg (Lq P true ty Wg (ALd P true ty Wg (kS P true ty Wg Fin)))) n g∨(bl∧∃g0,g = {g0 with status:=.blocked}∧D9 P true ty Wg (Lq P true ty Wg (ALd P true ty Wg (kS P true ty Wg Fin))) g0)
 | .ld2,n,g=>Lqn P true ty Wg (ALd P true ty Wg (kS P true ty Wg Fin)) n g
 | .ke,n,g=>Lqn P true ty Wg (AMk P true .enable (Lq P true ty Wg (AMk P true (.acquire (stA Wg)) (Lq P true ty Wg Fin)))) n g
 | .aq,n,g=>Lqn P true ty Wg (AMk P true (.acquire (stA Wg)) (Lq P true ty Wg Fin)) n g
 | .fin,n,g=>Lqn P true ty Wg Fin n g
 | .fini,n,g=>Lqn P true ty Wg Fin n g∧¬Fin g
def QW(QR QD:Goroutine->World->Prop):WK->Nat->Goroutine->World->Prop
 | .rc,_,g,W=>QR g W
 | .dn,_,g,W=>QD g W
 | .rel,n,g,_=>Lqn P false ty Wg (AMk P false (.releaseMerge (stA Wg)) (Lq P false ty Wg (AMk P false .disable (Uc P ty Wg)))) n g
 | .k1,n,g,_=>Lqn P false ty Wg (AMk P false .disable (Uc P ty Wg)) n g
 | .dec,n,g,_=>Lqn P false ty Wg (VY P ty Wg (Qt P) (DLd P ty Wg)) n g
 | .l1,n,g,_=>Lqn P false ty Wg (VX P ty Wg (DSt P ty Wg)) n g
 | .st,n,g,_=>Lqn P false ty Wg (VV P ty Wg (VU P ty Wg)) n g
 | .rs,n,g,_=>Lqn P false ty Wg (VW P ty Wg (Qt P)) n g
 | .gone,_,_,_=>True
end
section
variable {main:Bool}{Stop:Goroutine->Prop}{g' p p':Goroutine}
theorem bY(h:Lqn P main ty Wg Stop n g)(hw:WgLive ty Wg w):Stop g∨∃m g',n=m+1∧g.status=.running∧stepG P main g w=.go g' w #[]∧Lqn P main ty Wg Stop m g':=by
 have h1:=h w hw;cases n with
 | zero=>exact .inl (h1 w λx=>x)
 | succ m=>
  rcases h1 with h1|⟨hs,h1⟩
  exact .inl (h1 w λx=>x);refine .inr ?_;have h2:=h1 w λx=>x;cases Ya:stepG P main g w with
  | go g' w' es=>
   rw[Ya] at h2;obtain⟨⟨e1,e2⟩,h3⟩:=h2;subst e1 e2;exact⟨m,g',rfl,hs,rfl,λw2 hw2=>h3.rely JC λ_=>hw2⟩
  | _=>rw[Ya] at h2;exact h2.elim
theorem cN(h:Lqn P main ty Wg Stop n g)(hw:WgLive ty Wg w)(hr:∀g,Stop g->g.status=.running):g.status=.running:=by
 rcases bY h hw with h|⟨_,_,_,h,_⟩
 exact hr g h;exact h
theorem dX{st sm:Int}(h:w.heap[Wg]? = some (wgBlock ty st sm)):WgLive ty Wg w:=⟨st,sm,h⟩
theorem again_blocked(h:g.offers=none)(hs:g.status=.running)(w:World):({g with status:=.blocked} : Goroutine).again w=g:=by obtain⟨f,c,s,d,o⟩:=g;simp only at h hs;subst h hs;rfl
theorem vz(h:g.offers=none)(hs:g.status=.running):woken P p p' w ({g with status:=.blocked} : Goroutine) = {g with status:=.blocked}∨woken P p p' w ({g with status:=.blocked} : Goroutine)=g:=by unfold woken;split;exact .inr (again_blocked h hs w);exact .inl rfl
variable {Fin:Goroutine->Prop}(hFin:∀g,Fin g->g.status=.running)
include hFin
theorem xI(h:QM P ty Wg Fin bl mk n g)(hw:WgLive ty Wg w):g.status=.running∨(bl∧mk=.sem∧∃g0,g = {g0 with status:=.blocked}∧D9 P true ty Wg (Lq P true ty Wg (ALd P true ty Wg (kS P true ty Wg Fin))) g0):=by
 cases mk with
 | own=>obtain⟨m,h⟩:=h;exact .inl (cN h hw λg h=>h.1)
 | kd=>exact .inl (cN h hw λg h=>h.1)
 | ld=>exact .inl (cN h hw λg h=>h.1)
 | cas=>exact .inl (cN h hw λg h=>h.1)
 | wr=>exact .inl (cN h hw λg h=>h.1)
 | sem=>
  rcases h with h|⟨hb,h⟩
  exact .inl (cN h hw λg h=>h.1);exact .inr ⟨hb,rfl,h⟩
 | ld2=>exact .inl (cN h hw λg h=>h.1)
 | ke=>exact .inl (cN h hw λg h=>h.1)
 | aq=>exact .inl (cN h hw λg h=>h.1)
 | fin=>exact .inl (cN h hw hFin)
 | fini=>exact .inl (cN h.1 hw hFin)
theorem EC(h:QM P ty Wg Fin bl mk n g)(hw:WgLive ty Wg w):QM P ty Wg Fin bl mk n (woken P p p' w' g):=by
 rcases xI hFin h hw with hr|⟨hb,rfl,g0,rfl,h0⟩
 rw[woken_run hr];exact h;rcases vz (P:=P) (p:=p) (p':=p') (w:=w') h0.2.1 h0.1 with e|e;rw[e];exact .inr ⟨hb,g0,rfl,h0⟩;rw[e];exact .inl (bA h0)
omit hFin in
theorem CG{QR QD:Goroutine->World->Prop}{W:World}(hR:∀g W,QR g W->g.status=.running)(hD:∀g W,QD g W->∀w,WgLive ty Wg w->g.status=.running)(h:QW P ty Wg QR QD wk n g W)(hg:wk≠.gone)(hw:WgLive ty Wg w):g.status=.running:=by
 cases wk with
 | rc=>exact hR g W h
 | dn=>exact hD g W h w hw
 | rel=>exact cN h hw λg h=>h.1
 | k1=>exact cN h hw λg h=>h.1
 | dec=>exact cN h hw λg h=>h.1
 | l1=>exact cN h hw λg h=>h.1
 | st=>exact cN h hw λg h=>h.1
 | rs=>exact cN h hw λg h=>h.1
 | gone=>exact P' rfl hg
omit hFin in
theorem EB{QR QD:Goroutine->World->Prop}{W:World}(hR:∀g W,QR g W->g.status=.running)(hD:∀g W,QD g W->∀w,WgLive ty Wg w->g.status=.running)(h:QW P ty Wg QR QD wk n g W)(hw:WgLive ty Wg w):QW P ty Wg QR QD wk n (woken P p p' w' g) W:=by by_cases hg:wk=.gone;subst hg;trivial;rw[woken_run (CG hR hD h hg hw)];exact h
end
def rI(Wg:Nat)(t:Trace)(p:Nat):Prop:=∃y,t[p]? = some y∧y.act=.mark (.releaseMerge (stA Wg))∧t.deaf y.g p=0
def MK.joined:MK->Bool|fin=>true|fini=>true|_=>false
def KJ3(J Wg:Nat):WK->Trace->Nat->Prop
 | .rc,t,k=>Knows t J k
 | .dn,t,k=>Knows t J k
 | .rel,t,k=>Knows t J k
 | _,t,k=>∃p,rI Wg t p∧Before t k p
def ZO(J Wg:Nat)(m:MK)(k:WK)(t:Trace)(i:Nat):Prop:=(k=.gone->m.joined=false)∧KJ3 J Wg k t i
theorem rI.app{u:Trace}{p:Nat}(h:rI Wg t p):rI Wg (t++u) p:=by obtain⟨y,h1,h2,h3⟩:=h;exact⟨y,by rw[getElem?_append_old (lt_size_of_getElem? h1)];exact h1,h2,by rw[deaf_old (Nat.le_of_lt (lt_size_of_getElem? h1))];exact h3⟩
theorem OV(t u:Trace)(i:Nat)(h:KJ3 J Wg k t i):KJ3 J Wg k (t++u) i:=by
 have h1:Knows t J i->Knows (t++u) J i:=λx=>x.app u;have h2:(∃p,rI Wg t p∧Before t i p)->∃p,rI Wg (t++u) p∧Before (t++u) i p:=λ⟨p,a,b⟩=>⟨p,a.app,b.app u⟩
 cases k<;>first|exact h1 h|exact h2 h
theorem E2(t u:Trace)(i:Nat)(h:ZO J Wg m k t i):ZO J Wg m k (t++u) i:=⟨h.1,OV t u i h.2⟩
open Go.ConcR (KK wgBlock WgAt stA smA rd wr mk DC0)
def ZY(ty:TypeId)(Wg:Nat)(zf:Nat->Option Obj)(m:MK)(k:WK)(b:Nat):Option Obj:=if b=Wg then some (wgBlock ty (stV m k) (smV m k)) else zf b
def jOf(J:Nat):WK->Nat
 | .gone=>0
 | _=>J
def qB(J:Nat)(m:MK)(k:WK):Nat:=if jOf J k=0 then m.deaf else k.deaf
def Ex1(J Wg c n0:Nat)(Sst:Nat->Prop)(S:Nat->Nat->Prop)(n:Nat):Prop:=
 (∀i b,i=0∨i=J->S i b->b<n)∧(∀b,Sst b->S 0 b∧S J b)∧(S 0 c∧S J c)∧(∀b,S 0 b->S J b->Sst b∨b=c∨b=Wg)∧(∀b,S J b->b<n0->Sst b∨b=c∨b=Wg)∧n0<=n∧Wg<n
def Ex2(Wg:Nat)(Zf Sst:Nat->Prop)(S:Nat->Nat->Prop)(n:Nat):Prop:=(∀b,S 0 b->Zf b)∧(∀b,Sst b->S 0 b)∧Wg<n
def WK.walks:WK->Bool|.rc=>true|.dn=>true|_=>false
def ExK(J Wg c n0:Nat)(Zf Sst:Nat->Prop)(k:WK)(S:Nat->Nat->Prop)(n:Nat):Prop:=if k.walks=true then Ex1 J Wg c n0 Sst S n else Ex2 Wg Zf Sst S n
theorem ExK.lt(h:ExK J Wg c n0 Zf Sst k S n):Wg<n:=by unfold ExK at h;split at h;exact h.2.2.2.2.2.2;exact h.2.2
structure Wq (P:Program) (ty:TypeId) (Wg:Nat) where
 R:Goroutine->World->Prop
 D:Goroutine->World->Prop
 laterR:∀{g W W1},R g W->Rv W W1->R g W1
 laterD:∀{g W W1},D g W->Rv W W1->D g W1
 runR:∀g W,R g W->g.status=.running
 runD:∀g W,D g W->∀w,WgLive ty Wg w->g.status=.running
theorem qk(h:jOf J k≠0):jOf J k=J∧k≠.gone:=by cases k<;>simp_all [jOf]
theorem uh(h:k≠.gone):jOf J k=J:=by cases k<;>simp_all [jOf]
theorem JH{W W1:World}{QR QD:Goroutine->World->Prop}(hR:∀{g W W1},QR g W->Rv W W1->QR g W1)(hD:∀{g W W1},QD g W->Rv W W1->QD g W1)(h:QW P ty Wg QR QD k n g W)(r:Rv W W1):QW P ty Wg QR QD k n g W1:=by cases k<;>first|exact hR h r|exact hD h r|exact h
theorem Fw{n' i:Nat}(hi:i=0∨i=jOf J k)(hl:¬((i=0∧m≠.own)∨(i=J∧i≠0∧k.lib=true)))(hn:n<=n')(h:ExK J Wg c n0 Zf Sst k S n):ExK J Wg c n0 Zf Sst k (λj b=>S j b∨(j≠i∧n<=b∧b<n')) n':=by
 unfold ExK at h ⊢;split at h
 ·rename_i hw;rw[Xl hw];have hk:k≠.gone:=λe=>(by rw[e] at hw;cases hw);rw[uh hk] at hi;obtain⟨h1,h2,h3,h4,h6,h7,h5⟩:=h;refine⟨λj b hj hb=>?_,λb hb=>⟨.inl (h2 b hb).1,.inl (h2 b hb).2⟩,⟨.inl h3.1,.inl h3.2⟩,λb x y=>?_,λb hb X0=>?_,Nat.le_trans h7 hn,Nat.lt_of_lt_of_le h5 hn⟩
  ·rcases hb with hb|⟨_,_,hb⟩
   exact Nat.lt_of_lt_of_le (h1 j b hj hb) hn;exact hb
  ·rcases x with x|⟨x1,x2,x3⟩
   ·rcases y with y|⟨y1,y2,y3⟩
    exact h4 b x y;exact P' (h1 0 b (.inl rfl) x) (by omega)
   rcases y with y|⟨y1,y2,y3⟩
   exact P' (h1 J b (.inr rfl) y) (by omega);rcases hi with e|e;exact P' e.symm x1;exact P' e.symm y1
  rcases hb with hb|⟨_,x2,_⟩
  exact h6 b hb X0;omega
 rename_i hw;rw[Xk hw];refine⟨λb hb=>?_,λb hb=>.inl (h.2.1 b hb),Nat.lt_of_lt_of_le h.2.2 hn⟩;rcases hb with hb|⟨h0,-⟩
 exact h.1 b hb;exfalso;have Z0:i≠0:=λe=>h0 e.symm;rcases hi with e|e;exact Z0 e;obtain⟨e2,hk⟩:=qk (J:=J) (k:=k) (by rw[<-e];exact Z0);exact hl (.inr ⟨e.trans e2,Z0,by cases k<;>first|rfl|exact P' rfl hk|exact P' rfl hw⟩)
def Zd(P:Program)(ty:TypeId)(J Wg c:Nat)(X:Wq P ty Wg)(Sh Sst Rm:Nat->Prop)(Fin:Goroutine->Prop)(hFin:∀g,Fin g->g.status=.running)(Zf:Nat->Prop)(zf:Nat->Option Obj)(hZ:Zf Wg)(w0:World)(m:MK)(mf:Nat)(k:WK)(kf:Nat):Cw P:=
 cwP P (jOf J k) Wg Sh Rm (λi=>(i=0∧m≠.own)∨(i=J∧i≠0∧k.lib=true))
  (λi g W=>(i=0->QM P ty Wg Fin (k≠.gone) m mf g)∧(i≠0->QW P ty Wg X.R X.D k kf g W)) Zf (ZY ty Wg zf m k) m.deaf (qB J m k) (ZO J Wg m k) (ExK J Wg c w0.heap.size Zf Sst k) w0
  (λh r=>⟨h.1,λe=>JH X.laterR X.laterD (h.2 e) r⟩)
  (λh hz=>by have hw:=dX (ty:=ty) (Wg:=Wg) (by have:=hz Wg hZ;unfold ZY at this;rwa [Xl rfl] at this);exact⟨λe=>EC hFin (h.1 e) hw,λe=>EB X.runR X.runD (h.2 e) hw⟩)
  (λt u k h=>E2 t u k h)
  (λh0 hl S n hE t p y hy hg _=>by obtain⟨e,hk⟩:=qk h0;rw[e] at hl hg;have hw:k.walks=true:=(by cases k<;>first|rfl|exact P' rfl hk|exact P' (.inr ⟨rfl,e▸h0,rfl⟩) hl);have hkn:Knows t J p:=(by have:=knows_own hy;rwa [hg] at this);exact⟨λe=>P' e hk,by cases k<;>first|exact hkn|cases hw⟩)
  (λ{S n n' i} hi hl hn h=>Fw hi hl hn h)
theorem mS{g d:Nat}(h:op.g≠g):deafStep g d op=d:=by unfold deafStep;split<;>first|rfl|exact Xk h
section
variable {Sh Rm:Nat->Prop}{KJ KJ':Trace->Nat->Prop}{Ex:(Nat->Nat->Prop)->Nat->Prop}{dm dw:Nat}{u:Trace}
theorem iv0(h:ivP J Wg Sh Rm dm (if J=0 then dm else dw) KJ Ex S n t)(Za:Sh Wg)(hg:op.g=0)(hl:(∀a:Addr,op.act≠.mark (.release a))∧op.act.low n∧(op.act.touch? = none∨(∃a wr,op.act=.access ⟨.cell a,wr,true⟩∧a.block=Wg)∨∃a:Addr,(op.act=.mark (.read a)∨op.act=.mark (.write a))∧a.block=Wg))
  (kj:∀k,KJ t k->KJ' (t++#[op]) k):ivP J Wg Sh Rm (deafStep 0 dm op) (if J=0 then deafStep 0 dm op else dw) KJ' Ex S n (t++#[op]):=by
 have:=h.lib Za (op:=op) (KJ':=KJ') ⟨hl.1,hl.2.1,hl.2.2.imp id (.imp (λ⟨a,wr,x,y⟩=>⟨a,wr,x,y,.inl hg⟩) λx=>⟨hg,x⟩)⟩ (.inl hg) kj;by_cases h0:J=0;subst h0;simpa using this;rw[Xk h0] at this ⊢
 rwa [mS (g:=J) (by rw[hg];exact λe=>h0 e.symm)] at this
theorem ivJ(h:ivP J Wg Sh Rm dm dw KJ Ex S n t)(hJ:J≠0)(Za:Sh Wg)(hg:op.g=J)(hl:(∀a:Addr,op.act≠.mark (.release a))∧op.act.low n∧(op.act.touch? = none∨(∃a wr,op.act=.access ⟨.cell a,wr,true⟩∧a.block=Wg)∧dw≠0))
  (kj:∀k,KJ t k->KJ' (t++#[op]) k):ivP J Wg Sh Rm dm (deafStep J dw op) KJ' Ex S n (t++#[op]):=by
 have:=h.lib Za (op:=op) (KJ':=KJ') ⟨hl.1,hl.2.1,hl.2.2.imp id λ⟨⟨a,wr,x,y⟩,z⟩=>.inl ⟨a,wr,x,y,.inr z⟩⟩ (.inr hg) kj
 rwa [mS (g:=0) (by rw[hg];exact hJ)] at this
theorem ivP.alone(h:ivP J Wg Sh Rm dm dw KJ Ex S n t):ivP 0 Wg Sh Rm dm dm KJ Ex S n t:=by obtain⟨h1,h2,h3,h4⟩:=h;exact⟨⟨h1.clean,λi hi=>h1.known i (hi.elim .inl .inl),h1.seen⟩,⟨h2.d0,h2.d0,h2.norel,λk a x y=>⟨λe=>⟨((h2.wg k a x y).1 e).1,((h2.wg k a x y).1 e).1⟩,(h2.wg k a x y).2⟩,h2.all⟩,λi hi=>h3 i (hi.elim .inl .inl),h4⟩
end
section
variable {X:Wq P ty Wg}{Sh Rm:Nat->Prop}{Fin:Goroutine->Prop}{hFin:∀g,Fin g->g.status=.running}{zf:Nat->Option Obj}{hZ:Zf Wg}{w0:World}{m':MK}{mf mf':Nat}{k':WK}{kf kf':Nat}{C:Cw P}{gs:Array Goroutine}{V:Nat->World}{rk:Nat->Rk}{q:Nat->Nat}{g':Goroutine}{es:Array Event}{sl:Option (Nat×Nat)}
open Go.ConcN (sumTo upd sumTo_upd upd_ne upd_same)
theorem kZ(h:Aside Wg w w'):qQ (λb=>b=Wg) w w':=⟨h.size,λb hb=>h.block b hb,h.os,h.tape,h.output⟩
theorem ON(h:bC (Zd P ty J Wg c X Sh Sst Rm Fin hFin Zf zf hZ w0 m mf k kf) gs w t S V rk q)(hi:gs[0]? = some g)(hs:stepG P true g w=.go g' w' es)(hw:Aside Wg w w')(hg:QM P ty Wg Fin (k≠.gone) m' mf' g')
  (hz:w'.heap[Wg]? = some (wgBlock ty (stV m' k) (smV m' k))) (hiv:ivP (jOf J k) Wg Sh Rm m'.deaf (qB J m' k) (ZO J Wg m' k) (ExK J Wg c w0.heap.size Zf Sst k) S w.heap.size (t++MemOp.ofEvents 0 g.frame.fn g.frame.place es)) :
  ∃Yn V' rk',runT P (crowd gs w sl) 0=(.next (crowd Yn w' sl),MemOp.ofEvents 0 g.frame.fn g.frame.place es)∧bC (Zd P ty J Wg c X Sh Sst Rm Fin hFin Zf zf hZ w0 m' mf' k kf) Yn w' (t++MemOp.ofEvents 0 g.frame.fn g.frame.place es) S V' rk' q:=by
 refine⟨_,_,_,runT_crowd_go hi hs,h.Oe (C':=Zd P ty J Wg c X Sh Sst Rm Fin hFin Zf zf hZ w0 m' mf' k kf) rfl (λj=>Iff.rfl) rfl (Ch:=λb=>b=Wg) (λb hb j hj=>hb▸h.trace.2.2.1 j hj) (kZ hw) (.inl rfl) hi (r:=.leaf) ⟨λ_=>hg,λe=>P' rfl e⟩ (λj y hj XW hy=>?_) (λb hb=>?_) hiv λj hj=>?_⟩
 ·have hj':jOf J k≠0:=λe=>XW (by rcases hj with x|x;exact x;exact x.trans e);obtain⟨e,hk⟩:=qk hj';have hj2:j=J:=(by rcases hj with x|x;exact P' x XW;exact x.trans e);have hq:=h.walk j y hj hy;cases hr:rk j with
  | leaf=>
   rw[hr] at hq;exact⟨λe=>P' e XW,λ_=>EB X.runR X.runD (hq.2 XW) (dX hz)⟩
  | mk f=>
   rw[hr] at hq;rw[woken_run hq.1];have e2:(Zd P ty J Wg c X Sh Sst Rm Fin hFin Zf zf hZ w0 m mf k kf).Q j=(Zd P ty J Wg c X Sh Sst Rm Fin hFin Zf zf hZ w0 m' mf' k kf).Q j:=by
    funext a b;show ((j=0->QM P ty Wg Fin (k≠.gone) m mf a)∧(j≠0->QW P ty Wg X.R X.D k kf a b))=((j=0->QM P ty Wg Fin (k≠.gone) m' mf' a)∧(j≠0->QW P ty Wg X.R X.D k kf a b))
    simp[XW]
   rw[<-e2];exact hq
 ·refine⟨(h.common b hb).1,?_⟩;show _=ZY ty Wg zf m' k b;unfold ZY;by_cases e:b=Wg;rw[Xl e,e];exact hz;rw[Xk e,hw.block b e];have:=(h.common b hb).2;change _=ZY ty Wg zf m k b at this;unfold ZY at this
  rwa [Xk e] at this
 refine⟨λXW=>?_,λ_=>rfl⟩;rcases hj with ⟨e,-⟩|e
 exact P' e XW;exact h.still j (.inr e)
theorem Nz(h:bC (Zd P ty J Wg c X Sh Sst Rm Fin hFin Zf zf hZ w0 m mf k kf) gs w t S V rk q)(hJ:J≠0)(hkl:k.lib=true)(hkl':k'.lib=true)(hi:gs[J]? = some g)(hs:stepG P false g w=.go g' w' es)(hw:Aside Wg w w')(hg:QW P ty Wg X.R X.D k' kf' g' (V J))
  (hz:w'.heap[Wg]? = some (wgBlock ty (stV m k') (smV m k'))) (hiv:ivP J Wg Sh Rm m.deaf k'.deaf (ZO J Wg m k') (ExK J Wg c w0.heap.size Zf Sst k') S w.heap.size (t++MemOp.ofEvents J g.frame.fn g.frame.place es)) :
  ∃Yn V' rk',runT P (crowd gs w sl) J=(.next (crowd Yn w' sl),MemOp.ofEvents J g.frame.fn g.frame.place es)∧bC (Zd P ty J Wg c X Sh Sst Rm Fin hFin Zf zf hZ w0 m mf k' kf') Yn w' (t++MemOp.ofEvents J g.frame.fn g.frame.place es) S V' rk' q:=by
 have hk:k≠.gone:=λe=>by rw[e] at hkl;cases hkl
 have ZH:k'≠.gone:=λe=>by rw[e] at hkl';cases hkl'
 have ej:=uh (J:=J) hk;have ej':=uh (J:=J) ZH;have hJ0:(J==0)=false:=by simpa using hJ
 refine⟨_,_,_,runT_crowd_go hi (by rw[hJ0];exact hs),h.Oe (C':=Zd P ty J Wg c X Sh Sst Rm Fin hFin Zf zf hZ w0 m mf k' kf') rfl (λj=>?_) rfl (Ch:=λb=>b=Wg) (λb hb j hj=>hb▸h.trace.2.2.1 j hj) (kZ hw) (.inr ej.symm) hi (r:=.leaf) ⟨λe=>P' e hJ,λ_=>hg⟩ (λj y hj XW hy=>?_) (λb hb=>?_) ?_ λj hj=>?_⟩;show (j=0∨j=jOf J k')↔(j=0∨j=jOf J k);rw[ej,ej']
 ·have hj0:j=0:=(by rcases hj with x|x;exact x;exact P' (x.trans ej) XW);subst hj0;have hq:=h.walk 0 y hj hy;have hw2:=dX hz;have key:ZP P ((Zd P ty J Wg c X Sh Sst Rm Fin hFin Zf zf hZ w0 m mf k' kf').Q 0) (rk 0) y (V 0):=by
   cases hr:rk 0 with
   | leaf=>
    rw[hr] at hq;refine⟨λe=>?_,λe=>P' rfl e⟩;have:=hq.1 rfl;simpa[hk,ZH] using this
   | mk f=>
    rw[hr] at hq;have hm:(Zd P ty J Wg c X Sh Sst Rm Fin hFin Zf zf hZ w0 m mf k kf).Q 0=(Zd P ty J Wg c X Sh Sst Rm Fin hFin Zf zf hZ w0 m mf k' kf').Q 0:=by
     funext a b;show ((0=0->QM P ty Wg Fin (k≠.gone) m mf a)∧(0≠0->_))=((0=0->QM P ty Wg Fin (k'≠.gone) m mf a)∧(0≠0->_))
     simp[hk,ZH]
    rw[<-hm];exact hq
  cases hr:rk 0 with
  | leaf=>rw[hr] at key;exact⟨λe=>EC hFin (key.1 e) hw2,λe=>P' rfl e⟩
  | mk f=>rw[hr] at key;rw[woken_run key.1];exact key
 ·refine⟨(h.common b hb).1,?_⟩;show _=ZY ty Wg zf m k' b;unfold ZY;by_cases e:b=Wg;rw[Xl e,e];exact hz;rw[Xk e,hw.block b e];have:=(h.common b hb).2;change _=ZY ty Wg zf m k b at this;unfold ZY at this
  rwa [Xk e] at this
 show ivP (jOf J k') Wg Sh Rm m.deaf (qB J m k') (ZO J Wg m k') (ExK J Wg c w0.heap.size Zf Sst k') S w.heap.size _;unfold qB;rw[ej',Xk hJ];exact hiv;refine⟨λXW=>?_,λ_=>rfl⟩;rcases hj with e|⟨e,-⟩
 exact h.still j (.inl e);exact P' e XW
end
end
end Go.Proofs.YtmdpdknpapjchaaGreatDoor
