/- Company, 22: what the trace keeps in a phase with one worker (J) and one group (Wg).. -/
import Derived.Test.YtgigkennhdolpaaGreatDoorM20
namespace Go.Proofs.YtgigkennhdolpaaGreatDoor
open Go.Conc
open Go.ConcR (stA smA)
def KG(Sh:Nat->Prop)(t:Trace)(k:Nat)(a:Touch)(b:Nat):Prop:=a.kind=.atomic∧(∃ad,a.loc=.cell ad)∧Sh b∧∀g,t.g? k=some g->g≠0->t.counts k->∃j,t.g? j=some 0∧HappensBefore t k j
structure Xw (J Wg:Nat) (Sh:Nat->Prop) (KJ:Trace->Nat->Prop) (dm dw:Nat) (t:Trace):Prop where
 d0:Deaf t 0=dm
 dJ:Deaf t J=dw
 norel:∀(k:Nat) (a:Addr),t.act? k≠some (.mark (.release a))
 wg:∀k a,touchAt t k=some a->jV a.loc=some Wg->(a.kind=.plain->Knows t 0 k∧Knows t J k)∧(a.kind=.said->Knows t 0 k)
 all:∀k a,touchAt t k=some a->∀b,jV a.loc=some b->Knows t 0 k∨KJ t k∨KG Sh t k a b
section
variable {J Wg:Nat}{Sh:Nat->Prop}{KJ KJ':Trace->Nat->Prop}{dm dw dm' dw':Nat}{t u:Trace}{n:Nat}{i:Nat}{fn:FuncId}{pos:String}{es:Array Event}{S R:Nat->Prop}
theorem KG.app{k:Nat}{a:Touch}{b:Nat}(hk:k<t.size)(h:KG Sh t k a b):KG Sh (t++u) k a b:=by
 obtain⟨h1,h2,h3,h4⟩:=h;refine⟨h1,h2,h3,λg hg UR hc=>?_⟩;obtain⟨j,hj,hb⟩:=h4 g (by simpa[Trace.g?,getElem?_append_old hk] using hg) UR ((counts_old hk).1 hc);have hjl:j<t.size:=by unfold Trace.g? at hj;obtain⟨z,hz,_⟩:=Option.map_eq_some_iff.1 hj;exact lt_size_of_getElem? hz
 exact⟨j,by simpa[Trace.g?,getElem?_append_old hjl] using hj,hb_app u hb⟩
theorem Xw.app(h:Xw J Wg Sh KJ dm dw t)(h0:Deaf (t++u) 0=dm')(hJ:Deaf (t++u) J=dw')(hrel:∀op∈u,∀a:Addr,op.act≠.mark (.release a))
  (hwg:∀op∈u,∀x,op.act.touch? = some x->jV x.loc=some Wg->x.kind≠.plain∧(x.kind=.said->op.g=0)) (hKJ:∀k,KJ t k->KJ' (t++u) k)
  (U1:∀(p:Nat) (op:MemOp),(t++u)[p]? = some op->t.size<=p->op∈u->∀x,op.act.touch? = some x->∀b,jV x.loc=some b->op.g=0∨KJ' (t++u) p∨KG Sh (t++u) p x b):Xw J Wg Sh KJ' dm' dw' (t++u):=by
 refine⟨h0,hJ,mb h.norel hrel,λk a hk hb=>?_,λk a hk b hb=>?_⟩
 ·obtain⟨x,hx,Xu⟩:=touch_of hk;rcases getElem?_append_cases hx with ⟨_,Wz⟩|⟨_,Yw⟩
  obtain⟨q1,q2⟩:=h.wg k a (by rw[touchAt_of Wz];exact Xu) hb;exact⟨λe=>⟨(q1 e).1.app u,(q1 e).2.app u⟩,λe=>(q2 e).app u⟩;obtain⟨q1,q2⟩:=hwg x Yw a Xu hb;exact⟨λe=>Up e q1,λe=>by have:=knows_own hx;rwa [q2 e] at this⟩
 obtain⟨x,hx,Xu⟩:=touch_of hk;rcases getElem?_append_cases hx with ⟨UY,Wz⟩|⟨Zv,Yw⟩
 rcases h.all k a (by rw[touchAt_of Wz];exact Xu) b hb with z|z|z;exact .inl (z.app u);exact .inr (.inl (hKJ k z));exact .inr (.inr (z.app UY));rcases U1 k x hx Zv Yw a Xu b hb with z|z|z;have:=knows_own hx;rw[z] at this;exact .inl this;exact .inr (.inl z);exact .inr (.inr z)
theorem Deaf_quiet{g:Nat}(hq:∀op∈u,∀d,deafStep g d op=d):Deaf (t++u) g=Deaf t g:=by
 have:=deaf_quiet (t:=t) (u:=u) (g:=g) hq u.size (I' _);unfold Deaf at this ⊢
 rwa [Array.size_append]
theorem Ji{e:Event}(h:EvS S R n e):∀m,MemAct.ofEvent e≠.mark m∨m=.noRoom:=by
 obtain⟨loc,wr,sy⟩:=e;intro m;cases loc with
 | cell a=>exact .inl (by simp[MemAct.ofEvent])
 | obj r=>exact .inl (by cases wr<;>cases sy<;>simp[MemAct.ofEvent])
 | mark m'=>
  have h:m'=.noRoom:=h;subst h;by_cases e:m=.noRoom;exact .inr e;exact .inl (by simp[MemAct.ofEvent];exact λx=>e x.symm)
 | output=>exact h.elim
 | goroutines=>exact h.elim
theorem zi{e:Event}(h:EvS S R n e)(g d k:Nat):deafStep g d {g:=k,fn,pos,act:=.ofEvent e} = d:=by
 unfold deafStep;have hw:=Ji h;cases ha:MemAct.ofEvent e with
 | mark m=>
  cases m<;>first|rfl|(rcases hw _ with x|x<;>first|(exact Up ha x)|(cases x))
 | _=>rfl
theorem Xw.own(h:Xw J Wg Sh KJ dm dw t)(hS:S Wg)(he:∀e∈es,EvS S R n e)(hKJ:∀(u:Trace) k,KJ t k->KJ (t++u) k)(hi:i=0∨∀(u:Trace) (p:Nat) (y:MemOp),(t++u)[p]? = some y->y.g=i->(∀(x:Touch) (b:Nat),y.act.touch? = some x->jV x.loc=some b->¬S b)->KJ (t++u) p):Xw J Wg Sh KJ dm dw (t++MemOp.ofEvents i fn pos es):=by refine h.app ((Deaf_quiet λop UQ d=>?_).trans h.d0) ((Deaf_quiet λop UQ d=>?_).trans h.dJ) (λop UQ=>?_) (λop UQ x hx hb=>?_) (λk z=>hKJ _ k z) λp op hp _ UQ x hx b hb=>?_;obtain⟨e,Xd,rfl⟩:=Go.Conc.mem_ofEvents UQ;exact zi (he e Xd) _ _ _;obtain⟨e,Xd,rfl⟩:=Go.Conc.mem_ofEvents UQ;exact zi (he e Xd) _ _ _;obtain⟨e,Xd,rfl⟩:=Go.Conc.mem_ofEvents UQ;exact vd (he e Xd);obtain⟨e,Xd,rfl⟩:=Go.Conc.mem_ofEvents UQ;exact Up hS (mu (he e Xd) hx hb).1;obtain⟨e,Xd,rfl⟩:=Go.Conc.mem_ofEvents UQ;rcases hi with rfl|hi;exact .inl rfl;exact .inr (.inl (hi _ p _ hp rfl λx b hx hb=>(mu (he e Xd) hx hb).1))
theorem Xw.mute(h:Xw J Wg Sh KJ dm dw t)(Xh:i≠0)(hiJ:i≠J)(he:∀e∈es,Event.mute e=true)(hKJ:∀(u:Trace) k,KJ t k->KJ (t++u) k):Xw J Wg Sh KJ dm dw (t++MemOp.ofEvents i fn pos es):=by
 have hg:∀op∈MemOp.ofEvents i fn pos es,op.g=i:=λop UQ=>by obtain⟨e,_,rfl⟩:=Go.Conc.mem_ofEvents UQ;rfl
 refine h.app ((Deaf_other t Xh _ hg).trans h.d0) ((Deaf_other t hiJ _ hg).trans h.dJ) (λop UQ=>?_) (λop UQ x hx hb=>?_) (λk z=>hKJ _ k z) λp op hp _ UQ x hx b hb=>?_;obtain⟨e,Xd,rfl⟩:=Go.Conc.mem_ofEvents UQ;exact sq (he e Xd);obtain⟨e,Xd,rfl⟩:=Go.Conc.mem_ofEvents UQ;rw[touch_mute (he e Xd)] at hx;cases hx;obtain⟨e,Xd,rfl⟩:=Go.Conc.mem_ofEvents UQ;rw[touch_mute (he e Xd)] at hx;cases hx
end
open Go.ConcN (sumTo upd sumTo_upd upd_ne upd_same)
def cwP(P:Program)(J Wg:Nat)(Sh Rm:Nat->Prop)(L:Nat->Prop)(Q:Nat->Goroutine->World->Prop)(Zb:Nat->Prop)(z:Nat->Option Obj)(dm dw:Nat)(KJ:Trace->Nat->Prop)(Ex:(Nat->Nat->Prop)->Nat->Prop)(w0:World)
  (later:∀{i:Nat} {g:Goroutine} {W W1:World},Q i g W->Rv W W1->Q i g W1)
  (Aw:∀{i:Nat} {g p p':Goroutine} {W w':World},Q i g W->(∀b,Zb b->w'.heap[b]? = z b)->Q i (woken P p p' w' g) W)
  (kj:∀(t u:Trace) (k:Nat),KJ t k->KJ (t++u) k) (ko:J≠0->¬L J->∀(S:Nat->Nat->Prop) (n:Nat),Ex S n->∀(t:Trace) (p:Nat) (y:MemOp),t[p]? = some y->y.g=J->(∀(x:Touch) (b:Nat),y.act.touch? = some x->jV x.loc=some b->¬S J b)->KJ t p)
  (ex:∀{S:Nat->Nat->Prop} {n n' i:Nat},i=0∨i=J->¬L i->n<=n'->Ex S n->Ex (λj b=>S j b∨(j≠i∧n<=b∧b<n')) n'):Cw P where
 act:=λi=>i=0∨i=J
 zero:=.inl rfl
 lib:=L
 w0:=w0
 Q:=Q
 R:=λ_=>Rm
 Zb:=Zb
 z:=z
 Iv:=λS n t=>Kn (λi=>i=0∨i=J) (λ_=>Rm) S n t∧Xw J Wg Sh KJ dm dw t∧(∀i,i=0∨i=J->S i Wg)∧Ex S n
 later:=later
 Aw:=Aw
 own:=λha hl h hn hd he=>⟨h.1.own ha hn hd he,h.2.1.own (h.2.2.1 _ ha) he (λu k z=>kj _ u k z) (by
  rcases ha with e|e;exact .inl e;by_cases h0:J=0;exact .inl (e.trans h0)
  ·exact .inr λu p y hy hg hs=>ko h0 (e▸hl) _ _ h.2.2.2 _ p y hy (hg.trans e) λx b hx hb=>e▸hs x b hx hb),λi hi=>.inl (h.2.2.1 i hi),ex ha hl hn h.2.2.2⟩
 mute:=λha h hm=>⟨h.1.mute hm,h.2.1.mute (λe=>ha (.inl e)) (λe=>ha (.inr e)) hm (λu k z=>kj _ u k z),h.2.2⟩
section
variable {P:Program}{C C':Cw P}{gs Vk:Array Goroutine}{w w' W:World}{t u:Trace}{S:Nat->Nat->Prop}{V:Nat->World}{rk rk':Nat->Rk}{q:Nat->Nat}{i j:Nat}{g g' g1 g2:Goroutine}
structure pT (Zb:Nat->Prop) (w w':World):Prop where
 size:w'.heap.size=w.heap.size
 heap:∀b:Nat,¬Zb b->w'.heap[b]? = w.heap[b]?
 os:w'.os=w.os
 tape:w'.tape=w.tape
 output:w'.output=w.output
theorem pT.refl(Zb:Nat->Prop)(w:World):pT Zb w w:=⟨rfl,λ_ _=>rfl,rfl,rfl,rfl⟩
theorem View.Of{S R Zb:Nat->Prop}(h:View S R w W)(k:pT Zb w w')(hz:∀b,Zb b->S b):View S R w' (W.at w'.drawn):=
 ⟨k.tape.trans h.tape,rfl,k.os.trans h.os,k.output.trans h.output,k.size.trans h.size,λb h1 h2=>(k.heap b λx=>h1 (hz b x)).trans (h.same b h1 h2),λb h1 h2=>by rw[k.heap b λx=>h1 (hz b x)];exact h.lent b h1 h2,h.pois,h.plain⟩
theorem bz.re(h:bz C gs w t S V rk q)(hw0:C'.w0=C.w0)(Vs:∀j,C'.act j↔C.act j)(hR:C'.R=C.R)(hs:Vk.size=gs.size){Ch:Nat->Prop}(hch:∀b,Ch b->∀j,C.act j->S j b)(hw:pT Ch w w')
  (walk:∀(j:Nat) (y:Goroutine),C.act j->Vk[j]? = some y->WS P (C'.Q j) (rk' j) y (V j))
  (zb:∀b:Nat,C'.Zb b->(∀j,C.act j->S j b∨C.R j b)∧w'.heap[b]? = C'.z b) (old:∀(j:Nat) (y:Goroutine),¬C.act j->Vk[j]? = some y->QuitsD P (q j) (Deaf t j) y) (hu:∀op∈u,C.act op.g∧op.g<gs.size)
  (iv:C'.Iv S w.heap.size (t++u)) (still:∀j:Nat,C'.lib j->rk' j=.leaf):bz C' Vk w' (t++u) S (λj=>(V j).at w'.drawn) rk' q:=by
 have X9:∀j,(¬C.act j∨gs.size<=j)->Deaf (t++u) j=Deaf t j:=λj hj=>Deaf_quiet λop UQ d=>by have UR:op.g≠j:=λe=>(by obtain⟨h1,h2⟩:=hu op UQ;rcases hj with hj|hj;exact hj (e▸h1);omega);unfold deafStep;split<;>first|rfl|exact Uv UR
 refine⟨λk y hk hy=>WS.at_ (Q:=C'.Q k) (λh r=>C'.later h r) (walk k y ((Vs k).1 hk) hy) _,λk hk=>?_,λa b ha hb UR x hx=>?_,λb hb=>⟨λk hk=>by rw[hR];exact(zb b hb).1 k ((Vs k).1 hk),(zb b hb).2⟩,λk y hk hy=>?_,λk hk=>?_,by rw[hw.size];exact iv,still,λk hk=>by rw[hs];exact h.here k ((Vs k).1 hk),by rw[hw0];exact⟨hw.os.trans h.base.os,hw.tape.trans h.base.tape,hw.output.trans h.base.output⟩⟩;rw[hR];exact(h.view k ((Vs k).1 hk)).Of hw λb hb=>hch b hb k ((Vs k).1 hk);rw[hR];exact h.apart a b ((Vs a).1 ha) ((Vs b).1 hb) UR x (by rw[<-hw.size];exact hx);rw[X9 k (.inl λx=>hk ((Vs k).2 x))];exact old k y (λx=>hk ((Vs k).2 x)) hy;rw[X9 k (.inr (by rw[<-hs];exact hk))];exact h.above k (by rw[<-hs];exact hk)
theorem mo{p p':Goroutine}{y:Goroutine}(h:((gs.map (woken P p p' w')).setIfInBounds i g')[j]? = some y):(j=i∧i<gs.size∧y=g')∨(j≠i∧∃x,gs[j]? = some x∧y=woken P p p' w' x):=by by_cases e:j=i;subst e;by_cases hl:j<gs.size;rw[Array.getElem?_setIfInBounds_self_of_lt (by simpa using hl)] at h;exact .inl ⟨rfl,hl,(Oi h).symm⟩;rw[Array.getElem?_eq_none (by simpa using hl)] at h;cases h;rw[Un (Ne.symm e),Array.getElem?_map] at h;obtain⟨x,hx,rfl⟩:=Option.map_eq_some_iff.1 h;exact .inr ⟨e,x,hx,rfl⟩
theorem kN{y:Goroutine}(h:(gs.setIfInBounds i g')[j]? = some y):(j=i∧i<gs.size∧y=g')∨(j≠i∧gs[j]? = some y):=by by_cases e:j=i;subst e;by_cases hl:j<gs.size;rw[Array.getElem?_setIfInBounds_self_of_lt hl] at h;exact .inl ⟨rfl,hl,(Oi h).symm⟩;rw[Array.getElem?_eq_none (by simpa using hl)] at h;cases h;rw[Un (Ne.symm e)] at h;exact .inr ⟨e,h⟩
theorem bz.Lv(h:bz C gs w t S V rk q)(hw0:C'.w0=C.w0)(Vs:∀j,C'.act j↔C.act j)(hR:C'.R=C.R){Ch:Nat->Prop}(hch:∀b,Ch b->∀j,C.act j->S j b)(hw:pT Ch w w'){p p':Goroutine}(ha:C.act i)(hi:gs[i]? = some g){r:Rk}(hg:WS P (C'.Q i) r g' (V i))
  (walk:∀(j:Nat) (y:Goroutine),C.act j->j≠i->gs[j]? = some y->WS P (C'.Q j) (rk j) (woken P p p' w' y) (V j))
  (zb:∀b:Nat,C'.Zb b->(∀j,C.act j->S j b∨C.R j b)∧w'.heap[b]? = C'.z b) {fn:FuncId} {pos:String} {es:Array Event}
  (iv:C'.Iv S w.heap.size (t++MemOp.ofEvents i fn pos es)) (still:∀j:Nat,C'.lib j->(j≠i->rk j=.leaf)∧(j=i->r=.leaf)) :
  bz C' ((gs.map (woken P p p' w')).setIfInBounds i g') w' (t++MemOp.ofEvents i fn pos es) S (λj=>(V j).at w'.drawn) (upd rk i r) q:=by
 have UY:i<gs.size:=(E'.1 hi).1;refine h.re hw0 Vs hR (by simp) hch hw (λk y hk hy=>?_) zb (λk y hk hy=>?_) (λop UQ=>by obtain⟨e,_,rfl⟩:=Go.Conc.mem_ofEvents UQ;exact⟨ha,UY⟩) iv λk hk=>?_
 ·rcases mo hy with ⟨rfl,_,rfl⟩|⟨e,x,hx,rfl⟩
  rw[upd_same];exact hg;rw[upd_ne rk r e];exact walk k x hk e hx
 ·rcases mo hy with ⟨rfl,_,rfl⟩|⟨e,x,hx,rfl⟩
  exact(hk ha).elim;rw[woken_quitsD (h.old k x hk hx)];exact h.old k x hk hx
 by_cases e:k=i;subst e;rw[upd_same];exact(still k hk).2 rfl;rw[upd_ne rk r e];exact(still k hk).1 e
theorem bz.Cv(h:bz C gs w t S V rk q)(hw0:C'.w0=C.w0)(Vs:∀j,C'.act j↔C.act j)(hR:C'.R=C.R){Ch:Nat->Prop}(hch:∀b,Ch b->∀j,C.act j->S j b)(hw:pT Ch w w')(ha:C.act i)(hi:gs[i]? = some g){r:Rk}(hg:WS P (C'.Q i) r g' (V i))
  (walk:∀(j:Nat) (y:Goroutine),C.act j->j≠i->gs[j]? = some y->WS P (C'.Q j) (rk j) y (V j))
  (zb:∀b:Nat,C'.Zb b->(∀j,C.act j->S j b∨C.R j b)∧w'.heap[b]? = C'.z b) (hu:∀op∈u,op.g=i)
  (iv:C'.Iv S w.heap.size (t++u)) (still:∀j:Nat,C'.lib j->(j≠i->rk j=.leaf)∧(j=i->r=.leaf)) :
  bz C' (gs.setIfInBounds i g') w' (t++u) S (λj=>(V j).at w'.drawn) (upd rk i r) q:=by
 have UY:i<gs.size:=(E'.1 hi).1;refine h.re hw0 Vs hR (by simp) hch hw (λk y hk hy=>?_) zb (λk y hk hy=>?_) (λop UQ=>by rw[hu op UQ];exact⟨ha,UY⟩) iv λk hk=>?_
 ·rcases kN hy with ⟨rfl,_,rfl⟩|⟨e,hx⟩
  rw[upd_same];exact hg;rw[upd_ne rk r e];exact walk k y hk e hx
 ·rcases kN hy with ⟨rfl,_,rfl⟩|⟨e,hx⟩
  exact(hk ha).elim;exact h.old k y hk hx
 by_cases e:k=i;subst e;rw[upd_same];exact(still k hk).2 rfl;rw[upd_ne rk r e];exact(still k hk).1 e
theorem bz.HD(h:bz C gs w t S V rk q)(hw0:C'.w0=C.w0)(Vs:∀j,C'.act j↔C.act j)(hR:C'.R=C.R){Ch:Nat->Prop}(hch:∀b,Ch b->∀j,C.act j->S j b)(hw:pT Ch w w')(ha:C.act i)(hb:C.act j)(Yy:j≠i)(hi:i<gs.size)(hj:j<gs.size)(U1:∀k,C.act k->k=i∨k=j)
  {r1 r2:Rk} (h1:WS P (C'.Q i) r1 g1 (V i)) (h2:WS P (C'.Q j) r2 g2 (V j)) (zb:∀b:Nat,C'.Zb b->(∀j,C.act j->S j b∨C.R j b)∧w'.heap[b]? = C'.z b) (hu:∀op∈u,op.g=i∨op.g=j)
  (iv:C'.Iv S w.heap.size (t++u)) (still:∀j:Nat,¬C'.lib j) :
  bz C' ((gs.setIfInBounds j g2).setIfInBounds i g1) w' (t++u) S (λj=>(V j).at w'.drawn) (upd (upd rk j r2) i r1) q:=by
 refine h.re hw0 Vs hR (by simp) hch hw (λk y hk hy=>?_) zb (λk y hk hy=>?_) (λop UQ=>?_) iv λk hk=>(still k hk).elim
 ·rcases kN hy with ⟨rfl,_,rfl⟩|⟨e,hx⟩
  rw[upd_same];exact h1;rcases kN hx with ⟨rfl,_,rfl⟩|⟨e',Wz⟩
  rw[upd_ne _ _ e,upd_same];exact h2;exact((U1 k hk).elim (λx=>e x) λx=>e' x).elim
 ·rcases kN hy with ⟨rfl,_,rfl⟩|⟨e,hx⟩
  exact(hk ha).elim;rcases kN hx with ⟨rfl,_,rfl⟩|⟨e',Wz⟩
  exact(hk hb).elim;exact h.old k y hk Wz
 rcases hu op UQ with e|e;rw[e];exact⟨ha,hi⟩;rw[e];exact⟨hb,hj⟩
end
open Go.ConcR (stA smA)
def Ae(Wg n dw:Nat)(op:MemOp):Prop:=
 (∀a:Addr,op.act≠.mark (.release a))∧op.act.low n∧(op.act.touch? = none∨(∃a wr,op.act=.access ⟨.cell a,wr,true⟩∧a.block=Wg∧(op.g=0∨dw≠0))∨(op.g=0∧∃a:Addr,(op.act=.mark (.read a)∨op.act=.mark (.write a))∧a.block=Wg))
def ivP(J Wg:Nat)(Sh Rm:Nat->Prop)(dm dw:Nat)(KJ:Trace->Nat->Prop)(Ex:(Nat->Nat->Prop)->Nat->Prop)(S:Nat->Nat->Prop)(n:Nat)(t:Trace):Prop:=
 Kn (λi=>i=0∨i=J) (λ_=>Rm) S n t∧Xw J Wg Sh KJ dm dw t∧(∀i,i=0∨i=J->S i Wg)∧Ex S n
section
variable {J Wg:Nat}{Sh Rm:Nat->Prop}{KJ KJ':Trace->Nat->Prop}{Ex:(Nat->Nat->Prop)->Nat->Prop}{dm dw:Nat}{t u:Trace}{n:Nat}{S:Nat->Nat->Prop}{op:MemOp}
theorem Ae.blk(h:Ae Wg n dw op){x:Touch}(hx:op.act.touch? = some x):(∃a,x.loc=.cell a∧a.block=Wg)∧x.kind≠.plain∧(x.kind=.said->op.g=0)∧(x.kind=.atomic->op.g=0∨dw≠0):=by obtain⟨-,-,h|⟨a,wr,h1,h2,h3⟩|⟨h1,a,h2|h2,h3⟩⟩:=h;rw[h] at hx;cases hx;rw[h1] at hx;simp only[MemAct.touch?,Option.some.injEq] at hx;subst hx;exact⟨⟨a,rfl,h2⟩,by simp,by simp,λ_=>h3⟩;rw[h2] at hx;simp only[MemAct.touch?,Option.some.injEq] at hx;subst hx;exact⟨⟨a,rfl,h3⟩,by simp,λ_=>h1,by simp⟩;rw[h2] at hx;simp only[MemAct.touch?,Option.some.injEq] at hx;subst hx;exact⟨⟨a,rfl,h3⟩,by simp,λ_=>h1,by simp⟩
theorem tC{x:Touch}{a:Addr}{b:Nat}(h:x.loc=.cell a)(hb:jV x.loc=some b):a.block=b:=by rw[h] at hb;exact Oi hb
theorem Xw.lib(h:Xw J Wg Sh KJ dm dw t)(V8:Sh Wg)(hl:Ae Wg n dw op)(hi:op.g=0∨op.g=J)(hKJ:∀k,KJ t k->KJ' (t++#[op]) k):Xw J Wg Sh KJ' (deafStep 0 dm op) (deafStep J dw op) (t++#[op]):=by
 refine h.app (by rw[Deaf_push,h.d0]) (by rw[Deaf_push,h.dJ]) (λo ho=>?_) (λo ho x hx hb=>?_) hKJ λp o hp Zv ho x hx b hb=>?_;simp at ho;rw[ho];exact hl.1;simp at ho;subst ho;exact⟨(hl.blk hx).2.1,(hl.blk hx).2.2.1⟩;simp at ho;subst ho;obtain⟨⟨a,h1,h2⟩,h3,h4,h5⟩:=hl.blk hx;rcases hi with hi|hi;exact .inl hi;cases hk:x.kind with
 | plain=>exact Up hk h3
 | said=>exact .inl (h4 hk)
 | atomic=>
  rcases h5 hk with z|z;exact .inl z;refine .inr (.inr ⟨hk,⟨a,h1⟩,by rw[<-tC h1 hb,h2];exact V8,λg hg UR hc=>?_⟩);exfalso;obtain⟨x',Wz,-,hh⟩:=hc;obtain⟨y,hy,hyx⟩:=touch_of Wz;have hpe:p=t.size:=(by have:=lt_size_of_getElem? hp;simp at this;omega);rcases hh with hh|⟨g',Zl,hd⟩
  rw[hp] at hy;obtain rfl:=Oi hy;rw[hx] at hyx;exact hh (Oi hyx▸hk);have e:g'=J:=(by have:(t++#[o]).g? p=some o.g:=(by unfold Trace.g?;rw[hp];rfl);rw[this] at Zl;exact(Oi Zl).symm.trans hi);rw[e,hpe,deaf_old (I' _)] at hd;exact z (h.dJ.symm.trans hd)
theorem Kn.lib{act:Nat->Prop}{R:Nat->Nat->Prop}(h:Kn act R S n t)(hx:Xw J Wg Sh KJ dm dw t)(hS:∀i,act i->S i Wg)(hl:Ae Wg n dw op)(hi:op.g=0∨op.g=J):Kn act R S n (t++#[op]):=by
 refine h.Ta (i:=op.g) (λo ho=>by simp at ho;rw[ho]) (λsaid k a hk o ho b hb hc=>?_) (λo ho b hb b0 hb0 j hj _=>?_) (λo ho=>by simp at ho;rw[ho];exact hl.2.1)
 ·simp at ho;subst ho;obtain⟨⟨ad,h1,h2⟩,h3,h4,h5⟩:=hl.blk hb;have VP:jV a.loc=some Wg:=(by rw[hc.1,h1];show some ad.block=_;rw[h2]);obtain⟨k1,k2⟩:=hx.wg k a hk VP;rcases hc.2.2.2 with c|c|⟨_,c1,c2⟩
  rcases hi with e|e;rw[e];exact(k1 c).1;rw[e];exact(k1 c).2;exact Up c h3;rw[h4 c2];exact k2 c1
 simp at ho;subst ho;obtain⟨⟨ad,h1,h2⟩,-⟩:=hl.blk hb;rw[<-tC h1 hb0,h2];exact hS j hj
theorem ivP.lib(h:ivP J Wg Sh Rm dm dw KJ Ex S n t)(V8:Sh Wg)(hl:Ae Wg n dw op)(hi:op.g=0∨op.g=J)(kj:∀k,KJ t k->KJ' (t++#[op]) k):ivP J Wg Sh Rm (deafStep 0 dm op) (deafStep J dw op) KJ' Ex S n (t++#[op]):=
 ⟨h.1.lib h.2.1 h.2.2.1 hl hi,h.2.1.lib V8 hl hi kj,h.2.2⟩
theorem ivP.still(h:ivP J Wg Sh Rm dm dw KJ Ex S n t)(hu:∀op∈u,op.act.touch? = none∧op.act.low n∧∀m,op.act≠.mark m)(kj:∀k,KJ t k->KJ' (t++u) k):ivP J Wg Sh Rm dm dw KJ' Ex S n (t++u):=by
 have hd:∀g,Deaf (t++u) g=Deaf t g:=λg=>Deaf_quiet λop UQ d=>by have:=(hu op UQ).2.2;unfold deafStep;split<;>first|rfl|(rename_i e;exact Up e (this _))
 refine⟨?_,h.2.1.app ((hd 0).trans h.2.1.d0) ((hd J).trans h.2.1.dJ) (λop UQ _=>(hu op UQ).2.2 _) (λop UQ x hx=>by rw[(hu op UQ).1] at hx;cases hx) kj (λp op hp _ UQ x hx=>by rw[(hu op UQ).1] at hx;cases hx),h.2.2⟩;have:=h.1.still (l:=u.toList) λop UQ=>⟨(hu op (by simpa using UQ)).1,(hu op (by simpa using UQ)).2.1⟩
 simpa using this
end
end Go.Proofs.YtgigkennhdolpaaGreatDoor
namespace Go.Proofs.YtgigkennhdolpaaGreatDoor
open Go.Conc Go.ConcN
open Go.ConcR (KK wgBlock WgAt stA smA rd wr mk DC0)
inductive MK where|own|kd|ld|cas|wr|sem|ld2|ke|aq|fin|fini
deriving DecidableEq
inductive WK where|rc|dn|rel|k1|dec|l1|st|rs|gone
deriving DecidableEq
def MK.dF:MK->Nat|own=>20|kd=>19|ld=>18|cas=>17|wr=>16|sem=>15|ld2=>14|ke=>13|aq=>12|fin=>11|fini=>11
def MK.fuel:MK->Nat->Nat|fin,n=>2*n+1|fini,n=>2*n|_,n=>n
def WK.dF:WK->Nat|rc=>9|dn=>8|rel=>7|k1=>6|dec=>5|l1=>4|st=>3|rs=>2|gone=>0
def MK.reg:MK->Bool|wr=>true|sem=>true|_=>false
def MK.deaf:MK->Nat|ld=>1|cas=>1|wr=>1|sem=>1|ld2=>1|ke=>1|_=>0
def WK.lib:WK->Bool|rc=>false|dn=>false|gone=>false|_=>true
def WK.deaf:WK->Nat|rc=>0|dn=>0|rel=>0|k1=>0|_=>1
def Zp:MK->WK->Int
 | m,.rc=>if m.reg then KK+1 else KK
 | m,.dn=>if m.reg then KK+1 else KK
 | m,.rel=>if m.reg then KK+1 else KK
 | m,.k1=>if m.reg then KK+1 else KK
 | m,.dec=>if m.reg then KK+1 else KK
 | _,.l1=>1
 | _,.st=>1
 | _,.rs=>0
 | _,.gone=>0
def Zg:MK->WK->Int
 | m,.gone=>if m.reg then 1 else 0
 | _,_=>0
def db:MK->WK->Prop
 | m,.rc|m,.dn|m,.rel|m,.k1|m,.dec=>m=.own∨m=.kd∨m=.ld∨m=.cas∨m=.wr∨m=.sem
 | m,.l1|m,.st|m,.rs=>m=.wr∨m=.sem
 | _,.gone=>True
section
variable (P:Program)(ty:TypeId)(Wg:Nat)(Fin:Goroutine->Prop)
def QM(bl:Prop):MK->Nat->Goroutine->Prop
 | .own,_,g=>oI P true ty Wg Fin g
 | .kd,n,g=>Lqn P true ty Wg (XC P true .disable (Lq P true ty Wg (KT P true ty Wg (jZ P true ty Wg Fin) (Kv P true ty Wg Fin)))) n g
 | .ld,n,g=>Lqn P true ty Wg (KT P true ty Wg (jZ P true ty Wg Fin) (Kv P true ty Wg Fin)) n g
 | .cas,n,g=>Lqn P true ty Wg (Tm P true ty Wg (NY P true ty Wg Fin) (Lq P true ty Wg (ALd P true ty Wg (jZ P true ty Wg Fin)))) n g
 | .wr,n,g=>Lqn P true ty Wg (XC P true (.write (smA Wg)) (Lq P true ty Wg (B8 P true ty Wg (Lq P true ty Wg (ALd P true ty Wg (jZ P true ty Wg Fin)))))) n g
 | .sem,n,g=>Lqn P true ty Wg (B8 P true ty Wg (Lq P true ty Wg (ALd P true ty Wg (jZ P true ty Wg Fin)))) n g∨(bl∧∃g0,g = {g0 with status:=.blocked}∧B8 P true ty Wg (Lq P true ty Wg (ALd P true ty Wg (jZ P true ty Wg Fin))) g0)
 | .ld2,n,g=>Lqn P true ty Wg (ALd P true ty Wg (jZ P true ty Wg Fin)) n g
 | .ke,n,g=>Lqn P true ty Wg (XC P true .enable (Lq P true ty Wg (XC P true (.acquire (stA Wg)) (Lq P true ty Wg Fin)))) n g
 | .aq,n,g=>Lqn P true ty Wg (XC P true (.acquire (stA Wg)) (Lq P true ty Wg Fin)) n g
 | .fin,n,g=>Lqn P true ty Wg Fin n g
 | .fini,n,g=>Lqn P true ty Wg Fin n g∧¬Fin g
def QW(QR QD:Goroutine->World->Prop):WK->Nat->Goroutine->World->Prop
 | .rc,_,g,W=>QR g W
 | .dn,_,g,W=>QD g W
 | .rel,n,g,_=>Lqn P false ty Wg (XC P false (.releaseMerge (stA Wg)) (Lq P false ty Wg (XC P false .disable (Q4 P ty Wg)))) n g
 | .k1,n,g,_=>Lqn P false ty Wg (XC P false .disable (Q4 P ty Wg)) n g
 | .dec,n,g,_=>Lqn P false ty Wg (Tl P ty Wg (Qt P) (DLd P ty Wg)) n g
 | .l1,n,g,_=>Lqn P false ty Wg (Tj P ty Wg (DSt P ty Wg)) n g
 | .st,n,g,_=>Lqn P false ty Wg (Th P ty Wg (Tg P ty Wg)) n g
 | .rs,n,g,_=>Lqn P false ty Wg (Ti P ty Wg (Qt P)) n g
 | .gone,_,_,_=>True
end
section
variable {P:Program}{ty:TypeId}{Wg:Nat}{main:Bool}{Stop:Goroutine->Prop}{n:Nat}{g g' p p':Goroutine}{w w':World}
theorem bS(h:Lqn P main ty Wg Stop n g)(hw:WgLive ty Wg w):Stop g∨∃m g',n=m+1∧g.status=.running∧stepG P main g w=.go g' w #[]∧Lqn P main ty Wg Stop m g':=by
 have h1:=h w hw;cases n with
 | zero=>exact .inl (h1 w λx=>x)
 | succ m=>
  rcases h1 with h1|⟨hs,h1⟩
  exact .inl (h1 w λx=>x);refine .inr ?_;have h2:=h1 w λx=>x;cases U4:stepG P main g w with
  | go g' w' es=>
   rw[U4] at h2;obtain⟨⟨e1,e2⟩,h3⟩:=h2;subst e1 e2;exact⟨m,g',rfl,hs,rfl,λw2 hw2=>h3.rely Hz λ_=>hw2⟩
  | _=>rw[U4] at h2;exact h2.elim
theorem cC(h:Lqn P main ty Wg Stop n g)(hw:WgLive ty Wg w)(hr:∀g,Stop g->g.status=.running):g.status=.running:=by
 rcases bS h hw with h|⟨_,_,_,h,_⟩
 exact hr g h;exact h
theorem dL{st sm:Int}(h:w.heap[Wg]? = some (wgBlock ty st sm)):WgLive ty Wg w:=⟨st,sm,h⟩
theorem again_blocked(h:g.offers=none)(hs:g.status=.running)(w:World):({g with status:=.blocked} : Goroutine).again w=g:=by obtain⟨f,c,s,d,o⟩:=g;simp only at h hs;subst h hs;rfl
theorem tR(h:g.offers=none)(hs:g.status=.running):woken P p p' w ({g with status:=.blocked} : Goroutine) = {g with status:=.blocked}∨woken P p p' w ({g with status:=.blocked} : Goroutine)=g:=by unfold woken;split;exact .inr (again_blocked h hs w);exact .inl rfl
variable {Fin:Goroutine->Prop}(hFin:∀g,Fin g->g.status=.running)
include hFin
theorem vQ{bl:Prop}{mk:MK}(h:QM P ty Wg Fin bl mk n g)(hw:WgLive ty Wg w):g.status=.running∨(bl∧mk=.sem∧∃g0,g = {g0 with status:=.blocked}∧B8 P true ty Wg (Lq P true ty Wg (ALd P true ty Wg (jZ P true ty Wg Fin))) g0):=by
 cases mk with
 | own=>obtain⟨m,h⟩:=h;exact .inl (cC h hw λg h=>h.1)
 | kd=>exact .inl (cC h hw λg h=>h.1)
 | ld=>exact .inl (cC h hw λg h=>h.1)
 | cas=>exact .inl (cC h hw λg h=>h.1)
 | wr=>exact .inl (cC h hw λg h=>h.1)
 | sem=>
  rcases h with h|⟨hb,h⟩
  exact .inl (cC h hw λg h=>h.1);exact .inr ⟨hb,rfl,h⟩
 | ld2=>exact .inl (cC h hw λg h=>h.1)
 | ke=>exact .inl (cC h hw λg h=>h.1)
 | aq=>exact .inl (cC h hw λg h=>h.1)
 | fin=>exact .inl (cC h hw hFin)
 | fini=>exact .inl (cC h.1 hw hFin)
theorem CG{bl:Prop}{mk:MK}(h:QM P ty Wg Fin bl mk n g)(hw:WgLive ty Wg w):QM P ty Wg Fin bl mk n (woken P p p' w' g):=by
 rcases vQ hFin h hw with hr|⟨hb,rfl,g0,rfl,h0⟩
 rw[woken_run hr];exact h;rcases tR (P:=P) (p:=p) (p':=p') (w:=w') h0.2.1 h0.1 with e|e;rw[e];exact .inr ⟨hb,g0,rfl,h0⟩;rw[e];exact .inl (bu h0)
omit hFin in
theorem AT{wk:WK}{QR QD:Goroutine->World->Prop}{W:World}(hR:∀g W,QR g W->g.status=.running)(hD:∀g W,QD g W->∀w,WgLive ty Wg w->g.status=.running)(h:QW P ty Wg QR QD wk n g W)(hg:wk≠.gone)(hw:WgLive ty Wg w):g.status=.running:=by
 cases wk with
 | rc=>exact hR g W h
 | dn=>exact hD g W h w hw
 | rel=>exact cC h hw λg h=>h.1
 | k1=>exact cC h hw λg h=>h.1
 | dec=>exact cC h hw λg h=>h.1
 | l1=>exact cC h hw λg h=>h.1
 | st=>exact cC h hw λg h=>h.1
 | rs=>exact cC h hw λg h=>h.1
 | gone=>exact Up rfl hg
omit hFin in
theorem CF{wk:WK}{QR QD:Goroutine->World->Prop}{W:World}(hR:∀g W,QR g W->g.status=.running)(hD:∀g W,QD g W->∀w,WgLive ty Wg w->g.status=.running)(h:QW P ty Wg QR QD wk n g W)(hw:WgLive ty Wg w):QW P ty Wg QR QD wk n (woken P p p' w' g) W:=by by_cases hg:wk=.gone;subst hg;trivial;rw[woken_run (AT hR hD h hg hw)];exact h
end
def qu(Wg:Nat)(t:Trace)(p:Nat):Prop:=∃y,t[p]? = some y∧y.act=.mark (.releaseMerge (stA Wg))∧t.deaf y.g p=0
def MK.joined:MK->Bool|fin=>true|fini=>true|_=>false
def KJ3(J Wg:Nat):WK->Trace->Nat->Prop
 | .rc,t,k=>Knows t J k
 | .dn,t,k=>Knows t J k
 | .rel,t,k=>Knows t J k
 | _,t,k=>∃p,qu Wg t p∧Before t k p
def WR(J Wg:Nat)(m:MK)(k:WK)(t:Trace)(i:Nat):Prop:=(k=.gone->m.joined=false)∧KJ3 J Wg k t i
theorem qu.app{Wg:Nat}{t u:Trace}{p:Nat}(h:qu Wg t p):qu Wg (t++u) p:=by obtain⟨y,h1,h2,h3⟩:=h;exact⟨y,by rw[getElem?_append_old (lt_size_of_getElem? h1)];exact h1,h2,by rw[deaf_old (Nat.le_of_lt (lt_size_of_getElem? h1))];exact h3⟩
theorem L6{J Wg:Nat}{k:WK}(t u:Trace)(i:Nat)(h:KJ3 J Wg k t i):KJ3 J Wg k (t++u) i:=by
 have h1:Knows t J i->Knows (t++u) J i:=λx=>x.app u;have h2:(∃p,qu Wg t p∧Before t i p)->∃p,qu Wg (t++u) p∧Before (t++u) i p:=λ⟨p,a,b⟩=>⟨p,a.app,b.app u⟩
 cases k<;>first|exact h1 h|exact h2 h
theorem C3{J Wg:Nat}{m:MK}{k:WK}(t u:Trace)(i:Nat)(h:WR J Wg m k t i):WR J Wg m k (t++u) i:=⟨h.1,L6 t u i h.2⟩
open Go.ConcR (KK wgBlock WgAt stA smA rd wr mk DC0)
def Xf(ty:TypeId)(Wg:Nat)(zf:Nat->Option Obj)(m:MK)(k:WK)(b:Nat):Option Obj:=if b=Wg then some (wgBlock ty (Zp m k) (Zg m k)) else zf b
def Xt(J:Nat):WK->Nat
 | .gone=>0
 | _=>J
def pE(J:Nat)(m:MK)(k:WK):Nat:=if Xt J k=0 then m.deaf else k.deaf
def Ex1(J Wg c n0:Nat)(Sst:Nat->Prop)(S:Nat->Nat->Prop)(n:Nat):Prop:=
 (∀i b,i=0∨i=J->S i b->b<n)∧(∀b,Sst b->S 0 b∧S J b)∧(S 0 c∧S J c)∧(∀b,S 0 b->S J b->Sst b∨b=c∨b=Wg)∧(∀b,S J b->b<n0->Sst b∨b=c∨b=Wg)∧n0<=n∧Wg<n
def Ex2(Wg:Nat)(Zf Sst:Nat->Prop)(S:Nat->Nat->Prop)(n:Nat):Prop:=(∀b,S 0 b->Zf b)∧(∀b,Sst b->S 0 b)∧Wg<n
def WK.walks:WK->Bool|.rc=>true|.dn=>true|_=>false
def YJ(J Wg c n0:Nat)(Zf Sst:Nat->Prop)(k:WK)(S:Nat->Nat->Prop)(n:Nat):Prop:=if k.walks=true then Ex1 J Wg c n0 Sst S n else Ex2 Wg Zf Sst S n
theorem YJ.lt{J Wg c n0:Nat}{Zf Sst:Nat->Prop}{k:WK}{S:Nat->Nat->Prop}{n:Nat}(h:YJ J Wg c n0 Zf Sst k S n):Wg<n:=by unfold YJ at h;split at h;exact h.2.2.2.2.2.2;exact h.2.2
structure Wq (P:Program) (ty:TypeId) (Wg:Nat) where
 R:Goroutine->World->Prop
 D:Goroutine->World->Prop
 laterR:∀{g W W1},R g W->Rv W W1->R g W1
 laterD:∀{g W W1},D g W->Rv W W1->D g W1
 runR:∀g W,R g W->g.status=.running
 runD:∀g W,D g W->∀w,WgLive ty Wg w->g.status=.running
theorem pg{J:Nat}{k:WK}(h:Xt J k≠0):Xt J k=J∧k≠.gone:=by cases k<;>simp_all [Xt]
theorem sD{J:Nat}{k:WK}(h:k≠.gone):Xt J k=J:=by cases k<;>simp_all [Xt]
theorem HK{P:Program}{ty:TypeId}{Wg n:Nat}{g:Goroutine}{W W1:World}{QR QD:Goroutine->World->Prop}{k:WK}(hR:∀{g W W1},QR g W->Rv W W1->QR g W1)(hD:∀{g W W1},QD g W->Rv W W1->QD g W1)(h:QW P ty Wg QR QD k n g W)(r:Rv W W1):QW P ty Wg QR QD k n g W1:=by cases k<;>first|exact hR h r|exact hD h r|exact h
theorem Dr{J Wg c n0:Nat}{Zf Sst:Nat->Prop}{k:WK}{m:MK}{S:Nat->Nat->Prop}{n n' i:Nat}(hi:i=0∨i=Xt J k)(hl:¬((i=0∧m≠.own)∨(i=J∧i≠0∧k.lib=true)))(hn:n<=n')(h:YJ J Wg c n0 Zf Sst k S n):YJ J Wg c n0 Zf Sst k (λj b=>S j b∨(j≠i∧n<=b∧b<n')) n':=by
 unfold YJ at h ⊢;split at h
 ·rename_i hw;rw[Uw hw];have hk:k≠.gone:=λe=>(by rw[e] at hw;cases hw);rw[sD hk] at hi;obtain⟨h1,h2,h3,h4,h6,h7,h5⟩:=h;refine⟨λj b hj hb=>?_,λb hb=>⟨.inl (h2 b hb).1,.inl (h2 b hb).2⟩,⟨.inl h3.1,.inl h3.2⟩,λb x y=>?_,λb hb UY=>?_,Nat.le_trans h7 hn,Nat.lt_of_lt_of_le h5 hn⟩
  ·rcases hb with hb|⟨_,_,hb⟩
   exact Nat.lt_of_lt_of_le (h1 j b hj hb) hn;exact hb
  ·rcases x with x|⟨x1,x2,x3⟩
   ·rcases y with y|⟨y1,y2,y3⟩
    exact h4 b x y;exact Up (h1 0 b (.inl rfl) x) (by omega)
   rcases y with y|⟨y1,y2,y3⟩
   exact Up (h1 J b (.inr rfl) y) (by omega);rcases hi with e|e;exact Up e.symm x1;exact Up e.symm y1
  rcases hb with hb|⟨_,x2,_⟩
  exact h6 b hb UY;omega
 rename_i hw;rw[Uv hw];refine⟨λb hb=>?_,λb hb=>.inl (h.2.1 b hb),Nat.lt_of_lt_of_le h.2.2 hn⟩;rcases hb with hb|⟨h0,-⟩
 exact h.1 b hb;exfalso;have Xh:i≠0:=λe=>h0 e.symm;rcases hi with e|e;exact Xh e;obtain⟨e2,hk⟩:=pg (J:=J) (k:=k) (by rw[<-e];exact Xh);exact hl (.inr ⟨e.trans e2,Xh,by cases k<;>first|rfl|exact Up rfl hk|exact Up rfl hw⟩)
def Wc(P:Program)(ty:TypeId)(J Wg c:Nat)(X:Wq P ty Wg)(Sh Sst Rm:Nat->Prop)(Fin:Goroutine->Prop)(hFin:∀g,Fin g->g.status=.running)(Zf:Nat->Prop)(zf:Nat->Option Obj)(hZ:Zf Wg)(w0:World)(m:MK)(mf:Nat)(k:WK)(kf:Nat):Cw P:=
 cwP P (Xt J k) Wg Sh Rm (λi=>(i=0∧m≠.own)∨(i=J∧i≠0∧k.lib=true))
  (λi g W=>(i=0->QM P ty Wg Fin (k≠.gone) m mf g)∧(i≠0->QW P ty Wg X.R X.D k kf g W)) Zf (Xf ty Wg zf m k) m.deaf (pE J m k) (WR J Wg m k) (YJ J Wg c w0.heap.size Zf Sst k) w0
  (λh r=>⟨h.1,λe=>HK X.laterR X.laterD (h.2 e) r⟩)
  (λh hz=>by have hw:=dL (ty:=ty) (Wg:=Wg) (by have:=hz Wg hZ;unfold Xf at this;rwa [Uw rfl] at this);exact⟨λe=>CG hFin (h.1 e) hw,λe=>CF X.runR X.runD (h.2 e) hw⟩)
  (λt u k h=>C3 t u k h)
  (λh0 hl S n hE t p y hy hg _=>by obtain⟨e,hk⟩:=pg h0;rw[e] at hl hg;have hw:k.walks=true:=(by cases k<;>first|rfl|exact Up rfl hk|exact Up (.inr ⟨rfl,e▸h0,rfl⟩) hl);have XM:Knows t J p:=(by have:=knows_own hy;rwa [hg] at this);exact⟨λe=>Up e hk,by cases k<;>first|exact XM|cases hw⟩)
  (λ{S n n' i} hi hl hn h=>Dr hi hl hn h)
theorem lZ{g d:Nat}{op:MemOp}(h:op.g≠g):deafStep g d op=d:=by unfold deafStep;split<;>first|rfl|exact Uv h
section
variable {J Wg:Nat}{Sh Rm:Nat->Prop}{KJ KJ':Trace->Nat->Prop}{Ex:(Nat->Nat->Prop)->Nat->Prop}{dm dw:Nat}{t u:Trace}{n:Nat}{S:Nat->Nat->Prop}{op:MemOp}
theorem iv0(h:ivP J Wg Sh Rm dm (if J=0 then dm else dw) KJ Ex S n t)(V8:Sh Wg)(hg:op.g=0)(hl:(∀a:Addr,op.act≠.mark (.release a))∧op.act.low n∧(op.act.touch? = none∨(∃a wr,op.act=.access ⟨.cell a,wr,true⟩∧a.block=Wg)∨∃a:Addr,(op.act=.mark (.read a)∨op.act=.mark (.write a))∧a.block=Wg))
  (kj:∀k,KJ t k->KJ' (t++#[op]) k):ivP J Wg Sh Rm (deafStep 0 dm op) (if J=0 then deafStep 0 dm op else dw) KJ' Ex S n (t++#[op]):=by
 have:=h.lib V8 (op:=op) (KJ':=KJ') ⟨hl.1,hl.2.1,hl.2.2.imp id (.imp (λ⟨a,wr,x,y⟩=>⟨a,wr,x,y,.inl hg⟩) λx=>⟨hg,x⟩)⟩ (.inl hg) kj;by_cases h0:J=0;subst h0;simpa using this;rw[Uv h0] at this ⊢
 rwa [lZ (g:=J) (by rw[hg];exact λe=>h0 e.symm)] at this
theorem ivJ(h:ivP J Wg Sh Rm dm dw KJ Ex S n t)(hJ:J≠0)(V8:Sh Wg)(hg:op.g=J)(hl:(∀a:Addr,op.act≠.mark (.release a))∧op.act.low n∧(op.act.touch? = none∨(∃a wr,op.act=.access ⟨.cell a,wr,true⟩∧a.block=Wg)∧dw≠0))
  (kj:∀k,KJ t k->KJ' (t++#[op]) k):ivP J Wg Sh Rm dm (deafStep J dw op) KJ' Ex S n (t++#[op]):=by
 have:=h.lib V8 (op:=op) (KJ':=KJ') ⟨hl.1,hl.2.1,hl.2.2.imp id λ⟨⟨a,wr,x,y⟩,z⟩=>.inl ⟨a,wr,x,y,.inr z⟩⟩ (.inr hg) kj
 rwa [lZ (g:=0) (by rw[hg];exact hJ)] at this
theorem ivP.alone(h:ivP J Wg Sh Rm dm dw KJ Ex S n t):ivP 0 Wg Sh Rm dm dm KJ Ex S n t:=by obtain⟨h1,h2,h3,h4⟩:=h;exact⟨⟨h1.clean,λi hi=>h1.known i (hi.elim .inl .inl),h1.seen⟩,⟨h2.d0,h2.d0,h2.norel,λk a x y=>⟨λe=>⟨((h2.wg k a x y).1 e).1,((h2.wg k a x y).1 e).1⟩,(h2.wg k a x y).2⟩,h2.all⟩,λi hi=>h3 i (hi.elim .inl .inl),h4⟩
end
section
variable {P:Program}{ty:TypeId}{J Wg c:Nat}{X:Wq P ty Wg}{Sh Sst Rm:Nat->Prop}{Fin:Goroutine->Prop}{hFin:∀g,Fin g->g.status=.running}{Zf:Nat->Prop}{zf:Nat->Option Obj}{hZ:Zf Wg}{w0:World}{m m':MK}{mf mf':Nat}{k k':WK}{kf kf':Nat}
 {C:Cw P} {gs:Array Goroutine} {w w':World} {t:Trace} {S:Nat->Nat->Prop} {V:Nat->World} {rk:Nat->Rk} {q:Nat->Nat} {g g':Goroutine} {es:Array Event} {sl:Option (Nat×Nat)}
open Go.ConcN (sumTo upd sumTo_upd upd_ne upd_same)
theorem kh{Wg:Nat}{w w':World}(h:Aside Wg w w'):pT (λb=>b=Wg) w w':=⟨h.size,λb hb=>h.block b hb,h.os,h.tape,h.output⟩
theorem L0(h:bz (Wc P ty J Wg c X Sh Sst Rm Fin hFin Zf zf hZ w0 m mf k kf) gs w t S V rk q)(hi:gs[0]? = some g)(hs:stepG P true g w=.go g' w' es)(hw:Aside Wg w w')(hg:QM P ty Wg Fin (k≠.gone) m' mf' g')
  (hz:w'.heap[Wg]? = some (wgBlock ty (Zp m' k) (Zg m' k))) (hiv:ivP (Xt J k) Wg Sh Rm m'.deaf (pE J m' k) (WR J Wg m' k) (YJ J Wg c w0.heap.size Zf Sst k) S w.heap.size (t++MemOp.ofEvents 0 g.frame.fn g.frame.place es)) :
  ∃Vk V' rk',runT P (crowd gs w sl) 0=(.next (crowd Vk w' sl),MemOp.ofEvents 0 g.frame.fn g.frame.place es)∧bz (Wc P ty J Wg c X Sh Sst Rm Fin hFin Zf zf hZ w0 m' mf' k kf) Vk w' (t++MemOp.ofEvents 0 g.frame.fn g.frame.place es) S V' rk' q:=by
 refine⟨_,_,_,runT_crowd_go hi hs,h.Lv (C':=Wc P ty J Wg c X Sh Sst Rm Fin hFin Zf zf hZ w0 m' mf' k kf) rfl (λj=>Iff.rfl) rfl (Ch:=λb=>b=Wg) (λb hb j hj=>hb▸h.trace.2.2.1 j hj) (kh hw) (.inl rfl) hi (r:=.leaf) ⟨λ_=>hg,λe=>Up rfl e⟩ (λj y hj UR hy=>?_) (λb hb=>?_) hiv λj hj=>?_⟩
 ·have Yf:Xt J k≠0:=λe=>UR (by rcases hj with x|x;exact x;exact x.trans e);obtain⟨e,hk⟩:=pg Yf;have hj2:j=J:=(by rcases hj with x|x;exact Up x UR;exact x.trans e);have hq:=h.walk j y hj hy;cases hr:rk j with
  | leaf=>
   rw[hr] at hq;exact⟨λe=>Up e UR,λ_=>CF X.runR X.runD (hq.2 UR) (dL hz)⟩
  | mk f=>
   rw[hr] at hq;rw[woken_run hq.1];have e2:(Wc P ty J Wg c X Sh Sst Rm Fin hFin Zf zf hZ w0 m mf k kf).Q j=(Wc P ty J Wg c X Sh Sst Rm Fin hFin Zf zf hZ w0 m' mf' k kf).Q j:=by
    funext a b;show ((j=0->QM P ty Wg Fin (k≠.gone) m mf a)∧(j≠0->QW P ty Wg X.R X.D k kf a b))=((j=0->QM P ty Wg Fin (k≠.gone) m' mf' a)∧(j≠0->QW P ty Wg X.R X.D k kf a b))
    simp[UR]
   rw[<-e2];exact hq
 ·refine⟨(h.common b hb).1,?_⟩;show _=Xf ty Wg zf m' k b;unfold Xf;by_cases e:b=Wg;rw[Uw e,e];exact hz;rw[Uv e,hw.block b e];have:=(h.common b hb).2;change _=Xf ty Wg zf m k b at this;unfold Xf at this
  rwa [Uv e] at this
 refine⟨λUR=>?_,λ_=>rfl⟩;rcases hj with ⟨e,-⟩|e
 exact Up e UR;exact h.still j (.inr e)
theorem K2(h:bz (Wc P ty J Wg c X Sh Sst Rm Fin hFin Zf zf hZ w0 m mf k kf) gs w t S V rk q)(hJ:J≠0)(YO:k.lib=true)(hkl':k'.lib=true)(hi:gs[J]? = some g)(hs:stepG P false g w=.go g' w' es)(hw:Aside Wg w w')(hg:QW P ty Wg X.R X.D k' kf' g' (V J))
  (hz:w'.heap[Wg]? = some (wgBlock ty (Zp m k') (Zg m k'))) (hiv:ivP J Wg Sh Rm m.deaf k'.deaf (WR J Wg m k') (YJ J Wg c w0.heap.size Zf Sst k') S w.heap.size (t++MemOp.ofEvents J g.frame.fn g.frame.place es)) :
  ∃Vk V' rk',runT P (crowd gs w sl) J=(.next (crowd Vk w' sl),MemOp.ofEvents J g.frame.fn g.frame.place es)∧bz (Wc P ty J Wg c X Sh Sst Rm Fin hFin Zf zf hZ w0 m mf k' kf') Vk w' (t++MemOp.ofEvents J g.frame.fn g.frame.place es) S V' rk' q:=by
 have hk:k≠.gone:=λe=>by rw[e] at YO;cases YO
 have WJ:k'≠.gone:=λe=>by rw[e] at hkl';cases hkl'
 have ej:=sD (J:=J) hk;have ej':=sD (J:=J) WJ;have Ys:(J==0)=false:=by simpa using hJ
 refine⟨_,_,_,runT_crowd_go hi (by rw[Ys];exact hs),h.Lv (C':=Wc P ty J Wg c X Sh Sst Rm Fin hFin Zf zf hZ w0 m mf k' kf') rfl (λj=>?_) rfl (Ch:=λb=>b=Wg) (λb hb j hj=>hb▸h.trace.2.2.1 j hj) (kh hw) (.inr ej.symm) hi (r:=.leaf) ⟨λe=>Up e hJ,λ_=>hg⟩ (λj y hj UR hy=>?_) (λb hb=>?_) ?_ λj hj=>?_⟩;show (j=0∨j=Xt J k')↔(j=0∨j=Xt J k);rw[ej,ej']
 ·have Y2:j=0:=(by rcases hj with x|x;exact x;exact Up (x.trans ej) UR);subst Y2;have hq:=h.walk 0 y hj hy;have hw2:=dL hz;have key:WS P ((Wc P ty J Wg c X Sh Sst Rm Fin hFin Zf zf hZ w0 m mf k' kf').Q 0) (rk 0) y (V 0):=by
   cases hr:rk 0 with
   | leaf=>
    rw[hr] at hq;refine⟨λe=>?_,λe=>Up rfl e⟩;have:=hq.1 rfl;simpa[hk,WJ] using this
   | mk f=>
    rw[hr] at hq;have hm:(Wc P ty J Wg c X Sh Sst Rm Fin hFin Zf zf hZ w0 m mf k kf).Q 0=(Wc P ty J Wg c X Sh Sst Rm Fin hFin Zf zf hZ w0 m mf k' kf').Q 0:=by
     funext a b;show ((0=0->QM P ty Wg Fin (k≠.gone) m mf a)∧(0≠0->_))=((0=0->QM P ty Wg Fin (k'≠.gone) m mf a)∧(0≠0->_))
     simp[hk,WJ]
    rw[<-hm];exact hq
  cases hr:rk 0 with
  | leaf=>rw[hr] at key;exact⟨λe=>CG hFin (key.1 e) hw2,λe=>Up rfl e⟩
  | mk f=>rw[hr] at key;rw[woken_run key.1];exact key
 ·refine⟨(h.common b hb).1,?_⟩;show _=Xf ty Wg zf m k' b;unfold Xf;by_cases e:b=Wg;rw[Uw e,e];exact hz;rw[Uv e,hw.block b e];have:=(h.common b hb).2;change _=Xf ty Wg zf m k b at this;unfold Xf at this
  rwa [Uv e] at this
 show ivP (Xt J k') Wg Sh Rm m.deaf (pE J m k') (WR J Wg m k') (YJ J Wg c w0.heap.size Zf Sst k') S w.heap.size _;unfold pE;rw[ej',Uv hJ];exact hiv;refine⟨λUR=>?_,λ_=>rfl⟩;rcases hj with e|⟨e,-⟩
 exact h.still j (.inl e);exact Up e UR
end
end Go.Proofs.YtgigkennhdolpaaGreatDoor
