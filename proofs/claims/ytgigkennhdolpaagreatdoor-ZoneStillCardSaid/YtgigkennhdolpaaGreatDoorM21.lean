/- Company, 23: a crew of the starter and one worker (J. -/
import Derived.Test.YtgigkennhdolpaaGreatDoorM20
namespace Go.Proofs.YtgigkennhdolpaaGreatDoor
open Go.Conc
open Go.ConcN (sumTo upd sumTo_upd upd_ne upd_same)
def cwP(P:Program)(J Wg:Nat)(Sh Rm:Nat->Prop)(L:Nat->Prop)(Q:Nat->Goroutine->World->Prop)(Zb:Nat->Prop)(z:Nat->Option Obj)(dm dw:Nat)(KJ:Trace->Nat->Prop)(Ex:(Nat->Nat->Prop)->Nat->Prop)(w0:World)
  (later:∀{i:Nat} {g:Goroutine} {W W1:World},Q i g W->Rv W W1->Q i g W1)
  (AO:∀{i:Nat} {g p p':Goroutine} {W w':World},Q i g W->(∀b,Zb b->w'.heap[b]? = z b)->Q i (woken P p p' w' g) W)
  (kj:∀(t u:Trace) (k:Nat),KJ t k->KJ (t++u) k) (ko:J≠0->¬L J->∀(S:Nat->Nat->Prop) (n:Nat),Ex S n->∀(t:Trace) (p:Nat) (y:MemOp),t[p]? = some y->y.g=J->(∀(x:Touch) (b:Nat),y.act.touch? = some x->kl x.loc=some b->¬S J b)->KJ t p)
  (ex:∀{S:Nat->Nat->Prop} {n n' i:Nat},i=0∨i=J->¬L i->n<=n'->Ex S n->Ex (λj b=>S j b∨(j≠i∧n<=b∧b<n')) n'):Cw P where
 act:=λi=>i=0∨i=J
 zero:=.inl rfl
 lib:=L
 w0:=w0
 Q:=Q
 R:=λ_=>Rm
 Zb:=Zb
 z:=z
 Iv:=λS n t=>Kn (λi=>i=0∨i=J) (λ_=>Rm) S n t∧Xw J Wg Sh KJ dm dw t∧(∀i,i=0∨i=J->S i Wg)∧Ex S n
 later:=later
 AO:=AO
 own:=λha hl h hn hd he=>⟨h.1.own ha hn hd he,h.2.1.own (h.2.2.1 _ ha) he (λu k z=>kj _ u k z) (by
  rcases ha with e|e;exact .inl e;by_cases h0:J=0;exact .inl (e.trans h0)
  ·exact .inr λu p y hy hg hs=>ko h0 (e▸hl) _ _ h.2.2.2 _ p y hy (hg.trans e) λx b hx hb=>e▸hs x b hx hb),λi hi=>.inl (h.2.2.1 i hi),ex ha hl hn h.2.2.2⟩
 mute:=λha h hm=>⟨h.1.mute hm,h.2.1.mute (λe=>ha (.inl e)) (λe=>ha (.inr e)) hm (λu k z=>kj _ u k z),h.2.2⟩
section
variable {P:Program}{C C':Cw P}{gs Vq:Array Goroutine}{w w' W:World}{t u:Trace}{S:Nat->Nat->Prop}{V:Nat->World}{rk rk':Nat->Rk}{q:Nat->Nat}{i j:Nat}{g g' g1 g2:Goroutine}
structure qh (Zb:Nat->Prop) (w w':World):Prop where
 size:w'.heap.size=w.heap.size
 heap:∀b:Nat,¬Zb b->w'.heap[b]? = w.heap[b]?
 os:w'.os=w.os
 tape:w'.tape=w.tape
 output:w'.output=w.output
theorem qh.refl(Zb:Nat->Prop)(w:World):qh Zb w w:=⟨rfl,λ_ _=>rfl,rfl,rfl,rfl⟩
theorem View.OQ{S R Zb:Nat->Prop}(h:View S R w W)(k:qh Zb w w')(hz:∀b,Zb b->S b):View S R w' (W.at w'.drawn):=
 ⟨k.tape.trans h.tape,rfl,k.os.trans h.os,k.output.trans h.output,k.size.trans h.size,λb h1 h2=>(k.heap b λx=>h1 (hz b x)).trans (h.same b h1 h2),λb h1 h2=>by rw[k.heap b λx=>h1 (hz b x)];exact h.lent b h1 h2,h.pois,h.plain⟩
theorem bC.re(h:bC C gs w t S V rk q)(hw0:C'.w0=C.w0)(VA:∀j,C'.act j↔C.act j)(hR:C'.R=C.R)(hs:Vq.size=gs.size){Ch:Nat->Prop}(hch:∀b,Ch b->∀j,C.act j->S j b)(hw:qh Ch w w')
  (walk:∀(j:Nat) (y:Goroutine),C.act j->Vq[j]? = some y->Xd P (C'.Q j) (rk' j) y (V j))
  (zb:∀b:Nat,C'.Zb b->(∀j,C.act j->S j b∨C.R j b)∧w'.heap[b]? = C'.z b) (old:∀(j:Nat) (y:Goroutine),¬C.act j->Vq[j]? = some y->QuitsD P (q j) (Deaf t j) y) (hu:∀op∈u,C.act op.g∧op.g<gs.size)
  (iv:C'.Iv S w.heap.size (t++u)) (still:∀j:Nat,C'.lib j->rk' j=.leaf):bC C' Vq w' (t++u) S (λj=>(V j).at w'.drawn) rk' q:=by
 have Yh:∀j,(¬C.act j∨gs.size<=j)->Deaf (t++u) j=Deaf t j:=λj hj=>Deaf_quiet λop U5 d=>by have U2:op.g≠j:=λe=>(by obtain⟨h1,h2⟩:=hu op U5;rcases hj with hj|hj;exact hj (e▸h1);omega);unfold deafStep;split<;>first|rfl|exact UC U2
 refine⟨λk y hk hy=>Xd.at_ (Q:=C'.Q k) (λh r=>C'.later h r) (walk k y ((VA k).1 hk) hy) _,λk hk=>?_,λa b ha hb U2 x hx=>?_,λb hb=>⟨λk hk=>by rw[hR];exact(zb b hb).1 k ((VA k).1 hk),(zb b hb).2⟩,λk y hk hy=>?_,λk hk=>?_,by rw[hw.size];exact iv,still,λk hk=>by rw[hs];exact h.here k ((VA k).1 hk),by rw[hw0];exact⟨hw.os.trans h.base.os,hw.tape.trans h.base.tape,hw.output.trans h.base.output⟩⟩;rw[hR];exact(h.view k ((VA k).1 hk)).OQ hw λb hb=>hch b hb k ((VA k).1 hk);rw[hR];exact h.apart a b ((VA a).1 ha) ((VA b).1 hb) U2 x (by rw[<-hw.size];exact hx);rw[Yh k (.inl λx=>hk ((VA k).2 x))];exact old k y (λx=>hk ((VA k).2 x)) hy;rw[Yh k (.inr (by rw[<-hs];exact hk))];exact h.above k (by rw[<-hs];exact hk)
theorem mE{p p':Goroutine}{y:Goroutine}(h:((gs.map (woken P p p' w')).setIfInBounds i g')[j]? = some y):(j=i∧i<gs.size∧y=g')∨(j≠i∧∃x,gs[j]? = some x∧y=woken P p p' w' x):=by by_cases e:j=i;subst e;by_cases hl:j<gs.size;rw[Array.getElem?_setIfInBounds_self_of_lt (by simpa using hl)] at h;exact .inl ⟨rfl,hl,(Oi h).symm⟩;rw[Array.getElem?_eq_none (by simpa using hl)] at h;cases h;rw[Uu (Ne.symm e),Array.getElem?_map] at h;obtain⟨x,hx,rfl⟩:=Option.map_eq_some_iff.1 h;exact .inr ⟨e,x,hx,rfl⟩
theorem kV{y:Goroutine}(h:(gs.setIfInBounds i g')[j]? = some y):(j=i∧i<gs.size∧y=g')∨(j≠i∧gs[j]? = some y):=by by_cases e:j=i;subst e;by_cases hl:j<gs.size;rw[Array.getElem?_setIfInBounds_self_of_lt hl] at h;exact .inl ⟨rfl,hl,(Oi h).symm⟩;rw[Array.getElem?_eq_none (by simpa using hl)] at h;cases h;rw[Uu (Ne.symm e)] at h;exact .inr ⟨e,h⟩
theorem bC.Mj(h:bC C gs w t S V rk q)(hw0:C'.w0=C.w0)(VA:∀j,C'.act j↔C.act j)(hR:C'.R=C.R){Ch:Nat->Prop}(hch:∀b,Ch b->∀j,C.act j->S j b)(hw:qh Ch w w'){p p':Goroutine}(ha:C.act i)(hi:gs[i]? = some g){r:Rk}(hg:Xd P (C'.Q i) r g' (V i))
  (walk:∀(j:Nat) (y:Goroutine),C.act j->j≠i->gs[j]? = some y->Xd P (C'.Q j) (rk j) (woken P p p' w' y) (V j))
  (zb:∀b:Nat,C'.Zb b->(∀j,C.act j->S j b∨C.R j b)∧w'.heap[b]? = C'.z b) {fn:FuncId} {pos:String} {es:Array Event}
  (iv:C'.Iv S w.heap.size (t++MemOp.ofEvents i fn pos es)) (still:∀j:Nat,C'.lib j->(j≠i->rk j=.leaf)∧(j=i->r=.leaf)) :
  bC C' ((gs.map (woken P p p' w')).setIfInBounds i g') w' (t++MemOp.ofEvents i fn pos es) S (λj=>(V j).at w'.drawn) (upd rk i r) q:=by
 have U8:i<gs.size:=(E'.1 hi).1;refine h.re hw0 VA hR (by simp) hch hw (λk y hk hy=>?_) zb (λk y hk hy=>?_) (λop U5=>by obtain⟨e,_,rfl⟩:=Go.Conc.mem_ofEvents U5;exact⟨ha,U8⟩) iv λk hk=>?_
 ·rcases mE hy with ⟨rfl,_,rfl⟩|⟨e,x,hx,rfl⟩
  rw[upd_same];exact hg;rw[upd_ne rk r e];exact walk k x hk e hx
 ·rcases mE hy with ⟨rfl,_,rfl⟩|⟨e,x,hx,rfl⟩
  exact(hk ha).elim;rw[woken_quitsD (h.old k x hk hx)];exact h.old k x hk hx
 by_cases e:k=i;subst e;rw[upd_same];exact(still k hk).2 rfl;rw[upd_ne rk r e];exact(still k hk).1 e
theorem bC.C7(h:bC C gs w t S V rk q)(hw0:C'.w0=C.w0)(VA:∀j,C'.act j↔C.act j)(hR:C'.R=C.R){Ch:Nat->Prop}(hch:∀b,Ch b->∀j,C.act j->S j b)(hw:qh Ch w w')(ha:C.act i)(hi:gs[i]? = some g){r:Rk}(hg:Xd P (C'.Q i) r g' (V i))
  (walk:∀(j:Nat) (y:Goroutine),C.act j->j≠i->gs[j]? = some y->Xd P (C'.Q j) (rk j) y (V j))
  (zb:∀b:Nat,C'.Zb b->(∀j,C.act j->S j b∨C.R j b)∧w'.heap[b]? = C'.z b) (hu:∀op∈u,op.g=i)
  (iv:C'.Iv S w.heap.size (t++u)) (still:∀j:Nat,C'.lib j->(j≠i->rk j=.leaf)∧(j=i->r=.leaf)) :
  bC C' (gs.setIfInBounds i g') w' (t++u) S (λj=>(V j).at w'.drawn) (upd rk i r) q:=by
 have U8:i<gs.size:=(E'.1 hi).1;refine h.re hw0 VA hR (by simp) hch hw (λk y hk hy=>?_) zb (λk y hk hy=>?_) (λop U5=>by rw[hu op U5];exact⟨ha,U8⟩) iv λk hk=>?_
 ·rcases kV hy with ⟨rfl,_,rfl⟩|⟨e,hx⟩
  rw[upd_same];exact hg;rw[upd_ne rk r e];exact walk k y hk e hx
 ·rcases kV hy with ⟨rfl,_,rfl⟩|⟨e,hx⟩
  exact(hk ha).elim;exact h.old k y hk hx
 by_cases e:k=i;subst e;rw[upd_same];exact(still k hk).2 rfl;rw[upd_ne rk r e];exact(still k hk).1 e
theorem bC.Ip(h:bC C gs w t S V rk q)(hw0:C'.w0=C.w0)(VA:∀j,C'.act j↔C.act j)(hR:C'.R=C.R){Ch:Nat->Prop}(hch:∀b,Ch b->∀j,C.act j->S j b)(hw:qh Ch w w')(ha:C.act i)(hb:C.act j)(XS:j≠i)(hi:i<gs.size)(hj:j<gs.size)(Vb:∀k,C.act k->k=i∨k=j)
  {r1 r2:Rk} (h1:Xd P (C'.Q i) r1 g1 (V i)) (h2:Xd P (C'.Q j) r2 g2 (V j)) (zb:∀b:Nat,C'.Zb b->(∀j,C.act j->S j b∨C.R j b)∧w'.heap[b]? = C'.z b) (hu:∀op∈u,op.g=i∨op.g=j)
  (iv:C'.Iv S w.heap.size (t++u)) (still:∀j:Nat,¬C'.lib j) :
  bC C' ((gs.setIfInBounds j g2).setIfInBounds i g1) w' (t++u) S (λj=>(V j).at w'.drawn) (upd (upd rk j r2) i r1) q:=by
 refine h.re hw0 VA hR (by simp) hch hw (λk y hk hy=>?_) zb (λk y hk hy=>?_) (λop U5=>?_) iv λk hk=>(still k hk).elim
 ·rcases kV hy with ⟨rfl,_,rfl⟩|⟨e,hx⟩
  rw[upd_same];exact h1;rcases kV hx with ⟨rfl,_,rfl⟩|⟨e',WJ⟩
  rw[upd_ne _ _ e,upd_same];exact h2;exact((Vb k hk).elim (λx=>e x) λx=>e' x).elim
 ·rcases kV hy with ⟨rfl,_,rfl⟩|⟨e,hx⟩
  exact(hk ha).elim;rcases kV hx with ⟨rfl,_,rfl⟩|⟨e',WJ⟩
  exact(hk hb).elim;exact h.old k y hk WJ
 rcases hu op U5 with e|e;rw[e];exact⟨ha,hi⟩;rw[e];exact⟨hb,hj⟩
end
open Go.ConcR (stA smA)
def Aq(Wg n dw:Nat)(op:MemOp):Prop:=
 (∀a:Addr,op.act≠.mark (.release a))∧op.act.low n∧(op.act.touch? = none∨(∃a wr,op.act=.access ⟨.cell a,wr,true⟩∧a.block=Wg∧(op.g=0∨dw≠0))∨(op.g=0∧∃a:Addr,(op.act=.mark (.read a)∨op.act=.mark (.write a))∧a.block=Wg))
def ivP(J Wg:Nat)(Sh Rm:Nat->Prop)(dm dw:Nat)(KJ:Trace->Nat->Prop)(Ex:(Nat->Nat->Prop)->Nat->Prop)(S:Nat->Nat->Prop)(n:Nat)(t:Trace):Prop:=
 Kn (λi=>i=0∨i=J) (λ_=>Rm) S n t∧Xw J Wg Sh KJ dm dw t∧(∀i,i=0∨i=J->S i Wg)∧Ex S n
section
variable {J Wg:Nat}{Sh Rm:Nat->Prop}{KJ KJ':Trace->Nat->Prop}{Ex:(Nat->Nat->Prop)->Nat->Prop}{dm dw:Nat}{t u:Trace}{n:Nat}{S:Nat->Nat->Prop}{op:MemOp}
theorem Aq.blk(h:Aq Wg n dw op){x:Touch}(hx:op.act.touch? = some x):(∃a,x.loc=.cell a∧a.block=Wg)∧x.kind≠.plain∧(x.kind=.said->op.g=0)∧(x.kind=.atomic->op.g=0∨dw≠0):=by obtain⟨-,-,h|⟨a,wr,h1,h2,h3⟩|⟨h1,a,h2|h2,h3⟩⟩:=h;rw[h] at hx;cases hx;rw[h1] at hx;simp only[MemAct.touch?,Option.some.injEq] at hx;subst hx;exact⟨⟨a,rfl,h2⟩,by simp,by simp,λ_=>h3⟩;rw[h2] at hx;simp only[MemAct.touch?,Option.some.injEq] at hx;subst hx;exact⟨⟨a,rfl,h3⟩,by simp,λ_=>h1,by simp⟩;rw[h2] at hx;simp only[MemAct.touch?,Option.some.injEq] at hx;subst hx;exact⟨⟨a,rfl,h3⟩,by simp,λ_=>h1,by simp⟩
theorem tM{x:Touch}{a:Addr}{b:Nat}(h:x.loc=.cell a)(hb:kl x.loc=some b):a.block=b:=by rw[h] at hb;exact Oi hb
theorem Xw.lib(h:Xw J Wg Sh KJ dm dw t)(Wi:Sh Wg)(hl:Aq Wg n dw op)(hi:op.g=0∨op.g=J)(hKJ:∀k,KJ t k->KJ' (t++#[op]) k):Xw J Wg Sh KJ' (deafStep 0 dm op) (deafStep J dw op) (t++#[op]):=by
 refine h.app (by rw[Deaf_push,h.d0]) (by rw[Deaf_push,h.dJ]) (λo ho=>?_) (λo ho x hx hb=>?_) hKJ λp o hp ZE ho x hx b hb=>?_;simp at ho;rw[ho];exact hl.1;simp at ho;subst ho;exact⟨(hl.blk hx).2.1,(hl.blk hx).2.2.1⟩;simp at ho;subst ho;obtain⟨⟨a,h1,h2⟩,h3,h4,h5⟩:=hl.blk hx;rcases hi with hi|hi;exact .inl hi;cases hk:x.kind with
 | plain=>exact Uw hk h3
 | said=>exact .inl (h4 hk)
 | atomic=>
  rcases h5 hk with z|z;exact .inl z;refine .inr (.inr ⟨hk,⟨a,h1⟩,by rw[<-tM h1 hb,h2];exact Wi,λg hg U2 hc=>?_⟩);exfalso;obtain⟨x',WJ,-,hh⟩:=hc;obtain⟨y,hy,hyx⟩:=touch_of WJ;have hpe:p=t.size:=(by have:=lt_size_of_getElem? hp;simp at this;omega);rcases hh with hh|⟨g',Zs,hd⟩
  rw[hp] at hy;obtain rfl:=Oi hy;rw[hx] at hyx;exact hh (Oi hyx▸hk);have e:g'=J:=(by have:(t++#[o]).g? p=some o.g:=(by unfold Trace.g?;rw[hp];rfl);rw[this] at Zs;exact(Oi Zs).symm.trans hi);rw[e,hpe,deaf_old (I' _)] at hd;exact z (h.dJ.symm.trans hd)
theorem Kn.lib{act:Nat->Prop}{R:Nat->Nat->Prop}(h:Kn act R S n t)(hx:Xw J Wg Sh KJ dm dw t)(hS:∀i,act i->S i Wg)(hl:Aq Wg n dw op)(hi:op.g=0∨op.g=J):Kn act R S n (t++#[op]):=by
 refine h.Ti (i:=op.g) (λo ho=>by simp at ho;rw[ho]) (λsaid k a hk o ho b hb hc=>?_) (λo ho b hb b0 hb0 j hj _=>?_) (λo ho=>by simp at ho;rw[ho];exact hl.2.1)
 ·simp at ho;subst ho;obtain⟨⟨ad,h1,h2⟩,h3,h4,h5⟩:=hl.blk hb;have VW:kl a.loc=some Wg:=(by rw[hc.1,h1];show some ad.block=_;rw[h2]);obtain⟨k1,k2⟩:=hx.wg k a hk VW;rcases hc.2.2.2 with c|c|⟨_,c1,c2⟩
  rcases hi with e|e;rw[e];exact(k1 c).1;rw[e];exact(k1 c).2;exact Uw c h3;rw[h4 c2];exact k2 c1
 simp at ho;subst ho;obtain⟨⟨ad,h1,h2⟩,-⟩:=hl.blk hb;rw[<-tM h1 hb0,h2];exact hS j hj
theorem ivP.lib(h:ivP J Wg Sh Rm dm dw KJ Ex S n t)(Wi:Sh Wg)(hl:Aq Wg n dw op)(hi:op.g=0∨op.g=J)(kj:∀k,KJ t k->KJ' (t++#[op]) k):ivP J Wg Sh Rm (deafStep 0 dm op) (deafStep J dw op) KJ' Ex S n (t++#[op]):=
 ⟨h.1.lib h.2.1 h.2.2.1 hl hi,h.2.1.lib Wi hl hi kj,h.2.2⟩
theorem ivP.still(h:ivP J Wg Sh Rm dm dw KJ Ex S n t)(hu:∀op∈u,op.act.touch? = none∧op.act.low n∧∀m,op.act≠.mark m)(kj:∀k,KJ t k->KJ' (t++u) k):ivP J Wg Sh Rm dm dw KJ' Ex S n (t++u):=by
 have hd:∀g,Deaf (t++u) g=Deaf t g:=λg=>Deaf_quiet λop U5 d=>by have:=(hu op U5).2.2;unfold deafStep;split<;>first|rfl|(rename_i e;exact Uw e (this _))
 refine⟨?_,h.2.1.app ((hd 0).trans h.2.1.d0) ((hd J).trans h.2.1.dJ) (λop U5 _=>(hu op U5).2.2 _) (λop U5 x hx=>by rw[(hu op U5).1] at hx;cases hx) kj (λp op hp _ U5 x hx=>by rw[(hu op U5).1] at hx;cases hx),h.2.2⟩;have:=h.1.still (l:=u.toList) λop U5=>⟨(hu op (by simpa using U5)).1,(hu op (by simpa using U5)).2.1⟩
 simpa using this
end
end Go.Proofs.YtgigkennhdolpaaGreatDoor
namespace Go.Proofs.YtgigkennhdolpaaGreatDoor
open Go.Conc Go.ConcN
open Go.ConcR (KK wgBlock WgAt stA smA rd wr mk DC0)
inductive MK where|own|kd|ld|cas|wr|sem|ld2|ke|aq|fin|fini
deriving DecidableEq
inductive WK where|rc|dn|rel|k1|dec|l1|st|rs|gone
deriving DecidableEq
def MK.dU:MK->Nat|own=>20|kd=>19|ld=>18|cas=>17|wr=>16|sem=>15|ld2=>14|ke=>13|aq=>12|fin=>11|fini=>11
def MK.fuel:MK->Nat->Nat|fin,n=>2*n+1|fini,n=>2*n|_,n=>n
def WK.dU:WK->Nat|rc=>9|dn=>8|rel=>7|k1=>6|dec=>5|l1=>4|st=>3|rs=>2|gone=>0
def MK.reg:MK->Bool|wr=>true|sem=>true|_=>false
def MK.deaf:MK->Nat|ld=>1|cas=>1|wr=>1|sem=>1|ld2=>1|ke=>1|_=>0
def WK.lib:WK->Bool|rc=>false|dn=>false|gone=>false|_=>true
def WK.deaf:WK->Nat|rc=>0|dn=>0|rel=>0|k1=>0|_=>1
def Zz:MK->WK->Int
 | m,.rc=>if m.reg then KK+1 else KK
 | m,.dn=>if m.reg then KK+1 else KK
 | m,.rel=>if m.reg then KK+1 else KK
 | m,.k1=>if m.reg then KK+1 else KK
 | m,.dec=>if m.reg then KK+1 else KK
 | _,.l1=>1
 | _,.st=>1
 | _,.rs=>0
 | _,.gone=>0
def Zm:MK->WK->Int
 | m,.gone=>if m.reg then 1 else 0
 | _,_=>0
def dF:MK->WK->Prop
 | m,.rc|m,.dn|m,.rel|m,.k1|m,.dec=>m=.own∨m=.kd∨m=.ld∨m=.cas∨m=.wr∨m=.sem
 | m,.l1|m,.st|m,.rs=>m=.wr∨m=.sem
 | _,.gone=>True
section
variable (P:Program)(ty:TypeId)(Wg:Nat)(Fin:Goroutine->Prop)
def QM(bl:Prop):MK->Nat->Goroutine->Prop
 | .own,_,g=>oX P true ty Wg Fin g
 | .kd,n,g=>Lqn P true ty Wg (XI P true .disable (Lq P true ty Wg (Lz P true ty Wg (kv P true ty Wg Fin) (Lc P true ty Wg Fin)))) n g
 | .ld,n,g=>Lqn P true ty Wg (Lz P true ty Wg (kv P true ty Wg Fin) (Lc P true ty Wg Fin)) n g
 | .cas,n,g=>Lqn P true ty Wg (Tw P true ty Wg (OH P true ty Wg Fin) (Lq P true ty Wg (ALd P true ty Wg (kv P true ty Wg Fin)))) n g
 | .wr,n,g=>Lqn P true ty Wg (XI P true (.write (smA Wg)) (Lq P true ty Wg (CM P true ty Wg (Lq P true ty Wg (ALd P true ty Wg (kv P true ty Wg Fin)))))) n g
 | .sem,n,g=>Lqn P true ty Wg (CM P true ty Wg (Lq P true ty Wg (ALd P true ty Wg (kv P true ty Wg Fin)))) n g∨(bl∧∃g0,g = {g0 with status:=.blocked}∧CM P true ty Wg (Lq P true ty Wg (ALd P true ty Wg (kv P true ty Wg Fin))) g0)
 | .ld2,n,g=>Lqn P true ty Wg (ALd P true ty Wg (kv P true ty Wg Fin)) n g
 | .ke,n,g=>Lqn P true ty Wg (XI P true .enable (Lq P true ty Wg (XI P true (.acquire (stA Wg)) (Lq P true ty Wg Fin)))) n g
 | .aq,n,g=>Lqn P true ty Wg (XI P true (.acquire (stA Wg)) (Lq P true ty Wg Fin)) n g
 | .fin,n,g=>Lqn P true ty Wg Fin n g
 | .fini,n,g=>Lqn P true ty Wg Fin n g∧¬Fin g
def QW(QR QD:Goroutine->World->Prop):WK->Nat->Goroutine->World->Prop
 | .rc,_,g,W=>QR g W
 | .dn,_,g,W=>QD g W
 | .rel,n,g,_=>Lqn P false ty Wg (XI P false (.releaseMerge (stA Wg)) (Lq P false ty Wg (XI P false .disable (Ry P ty Wg)))) n g
 | .k1,n,g,_=>Lqn P false ty Wg (XI P false .disable (Ry P ty Wg)) n g
 | .dec,n,g,_=>Lqn P false ty Wg (Tv P ty Wg (Qt P) (DLd P ty Wg)) n g
 | .l1,n,g,_=>Lqn P false ty Wg (Tu P ty Wg (DSt P ty Wg)) n g
 | .st,n,g,_=>Lqn P false ty Wg (Ts P ty Wg (Tq P ty Wg)) n g
 | .rs,n,g,_=>Lqn P false ty Wg (Tt P ty Wg (Qt P)) n g
 | .gone,_,_,_=>True
end
section
variable {P:Program}{ty:TypeId}{Wg:Nat}{main:Bool}{Stop:Goroutine->Prop}{n:Nat}{g g' p p':Goroutine}{w w':World}
theorem bV(h:Lqn P main ty Wg Stop n g)(hw:WgLive ty Wg w):Stop g∨∃m g',n=m+1∧g.status=.running∧stepG P main g w=.go g' w #[]∧Lqn P main ty Wg Stop m g':=by
 have h1:=h w hw;cases n with
 | zero=>exact .inl (h1 w λx=>x)
 | succ m=>
  rcases h1 with h1|⟨hs,h1⟩
  exact .inl (h1 w λx=>x);refine .inr ?_;have h2:=h1 w λx=>x;cases U7:stepG P main g w with
  | go g' w' es=>
   rw[U7] at h2;obtain⟨⟨e1,e2⟩,h3⟩:=h2;subst e1 e2;exact⟨m,g',rfl,hs,rfl,λw2 hw2=>h3.rely Ik λ_=>hw2⟩
  | _=>rw[U7] at h2;exact h2.elim
theorem cG(h:Lqn P main ty Wg Stop n g)(hw:WgLive ty Wg w)(hr:∀g,Stop g->g.status=.running):g.status=.running:=by
 rcases bV h hw with h|⟨_,_,_,h,_⟩
 exact hr g h;exact h
theorem ef{st sm:Int}(h:w.heap[Wg]? = some (wgBlock ty st sm)):WgLive ty Wg w:=⟨st,sm,h⟩
theorem again_blocked(h:g.offers=none)(hs:g.status=.running)(w:World):({g with status:=.blocked} : Goroutine).again w=g:=by obtain⟨f,c,s,d,o⟩:=g;simp only at h hs;subst h hs;rfl
theorem tZ(h:g.offers=none)(hs:g.status=.running):woken P p p' w ({g with status:=.blocked} : Goroutine) = {g with status:=.blocked}∨woken P p p' w ({g with status:=.blocked} : Goroutine)=g:=by unfold woken;split;exact .inr (again_blocked h hs w);exact .inl rfl
variable {Fin:Goroutine->Prop}(hFin:∀g,Fin g->g.status=.running)
include hFin
theorem vY{bl:Prop}{mk:MK}(h:QM P ty Wg Fin bl mk n g)(hw:WgLive ty Wg w):g.status=.running∨(bl∧mk=.sem∧∃g0,g = {g0 with status:=.blocked}∧CM P true ty Wg (Lq P true ty Wg (ALd P true ty Wg (kv P true ty Wg Fin))) g0):=by
 cases mk with
 | own=>obtain⟨m,h⟩:=h;exact .inl (cG h hw λg h=>h.1)
 | kd=>exact .inl (cG h hw λg h=>h.1)
 | ld=>exact .inl (cG h hw λg h=>h.1)
 | cas=>exact .inl (cG h hw λg h=>h.1)
 | wr=>exact .inl (cG h hw λg h=>h.1)
 | sem=>
  rcases h with h|⟨hb,h⟩
  exact .inl (cG h hw λg h=>h.1);exact .inr ⟨hb,rfl,h⟩
 | ld2=>exact .inl (cG h hw λg h=>h.1)
 | ke=>exact .inl (cG h hw λg h=>h.1)
 | aq=>exact .inl (cG h hw λg h=>h.1)
 | fin=>exact .inl (cG h hw hFin)
 | fini=>exact .inl (cG h.1 hw hFin)
theorem Dc{bl:Prop}{mk:MK}(h:QM P ty Wg Fin bl mk n g)(hw:WgLive ty Wg w):QM P ty Wg Fin bl mk n (woken P p p' w' g):=by
 rcases vY hFin h hw with hr|⟨hb,rfl,g0,rfl,h0⟩
 rw[woken_run hr];exact h;rcases tZ (P:=P) (p:=p) (p':=p') (w:=w') h0.2.1 h0.1 with e|e;rw[e];exact .inr ⟨hb,g0,rfl,h0⟩;rw[e];exact .inl (bA h0)
omit hFin in
theorem Bj{wk:WK}{QR QD:Goroutine->World->Prop}{W:World}(hR:∀g W,QR g W->g.status=.running)(hD:∀g W,QD g W->∀w,WgLive ty Wg w->g.status=.running)(h:QW P ty Wg QR QD wk n g W)(hg:wk≠.gone)(hw:WgLive ty Wg w):g.status=.running:=by
 cases wk with
 | rc=>exact hR g W h
 | dn=>exact hD g W h w hw
 | rel=>exact cG h hw λg h=>h.1
 | k1=>exact cG h hw λg h=>h.1
 | dec=>exact cG h hw λg h=>h.1
 | l1=>exact cG h hw λg h=>h.1
 | st=>exact cG h hw λg h=>h.1
 | rs=>exact cG h hw λg h=>h.1
 | gone=>exact Uw rfl hg
omit hFin in
theorem Db{wk:WK}{QR QD:Goroutine->World->Prop}{W:World}(hR:∀g W,QR g W->g.status=.running)(hD:∀g W,QD g W->∀w,WgLive ty Wg w->g.status=.running)(h:QW P ty Wg QR QD wk n g W)(hw:WgLive ty Wg w):QW P ty Wg QR QD wk n (woken P p p' w' g) W:=by by_cases hg:wk=.gone;subst hg;trivial;rw[woken_run (Bj hR hD h hg hw)];exact h
end
def qG(Wg:Nat)(t:Trace)(p:Nat):Prop:=∃y,t[p]? = some y∧y.act=.mark (.releaseMerge (stA Wg))∧t.deaf y.g p=0
def MK.joined:MK->Bool|fin=>true|fini=>true|_=>false
def KJ3(J Wg:Nat):WK->Trace->Nat->Prop
 | .rc,t,k=>Knows t J k
 | .dn,t,k=>Knows t J k
 | .rel,t,k=>Knows t J k
 | _,t,k=>∃p,qG Wg t p∧Before t k p
def Xc(J Wg:Nat)(m:MK)(k:WK)(t:Trace)(i:Nat):Prop:=(k=.gone->m.joined=false)∧KJ3 J Wg k t i
theorem qG.app{Wg:Nat}{t u:Trace}{p:Nat}(h:qG Wg t p):qG Wg (t++u) p:=by obtain⟨y,h1,h2,h3⟩:=h;exact⟨y,by rw[getElem?_append_old (lt_size_of_getElem? h1)];exact h1,h2,by rw[deaf_old (Nat.le_of_lt (lt_size_of_getElem? h1))];exact h3⟩
theorem MU{J Wg:Nat}{k:WK}(t u:Trace)(i:Nat)(h:KJ3 J Wg k t i):KJ3 J Wg k (t++u) i:=by
 have h1:Knows t J i->Knows (t++u) J i:=λx=>x.app u;have h2:(∃p,qG Wg t p∧Before t i p)->∃p,qG Wg (t++u) p∧Before (t++u) i p:=λ⟨p,a,b⟩=>⟨p,a.app,b.app u⟩
 cases k<;>first|exact h1 h|exact h2 h
theorem DC{J Wg:Nat}{m:MK}{k:WK}(t u:Trace)(i:Nat)(h:Xc J Wg m k t i):Xc J Wg m k (t++u) i:=⟨h.1,MU t u i h.2⟩
end Go.Proofs.YtgigkennhdolpaaGreatDoor
namespace Go.Proofs.YtgigkennhdolpaaGreatDoor
open Go.Conc Go.ConcN
open Go.ConcR (KK wgBlock WgAt stA smA rd wr mk DC0)
def Xo(ty:TypeId)(Wg:Nat)(zf:Nat->Option Obj)(m:MK)(k:WK)(b:Nat):Option Obj:=if b=Wg then some (wgBlock ty (Zz m k) (Zm m k)) else zf b
def XA(J:Nat):WK->Nat
 | .gone=>0
 | _=>J
def pR(J:Nat)(m:MK)(k:WK):Nat:=if XA J k=0 then m.deaf else k.deaf
def Ex1(J Wg c n0:Nat)(Sst:Nat->Prop)(S:Nat->Nat->Prop)(n:Nat):Prop:=
 (∀i b,i=0∨i=J->S i b->b<n)∧(∀b,Sst b->S 0 b∧S J b)∧(S 0 c∧S J c)∧(∀b,S 0 b->S J b->Sst b∨b=c∨b=Wg)∧(∀b,S J b->b<n0->Sst b∨b=c∨b=Wg)∧n0<=n∧Wg<n
def Ex2(Wg:Nat)(Zf Sst:Nat->Prop)(S:Nat->Nat->Prop)(n:Nat):Prop:=(∀b,S 0 b->Zf b)∧(∀b,Sst b->S 0 b)∧Wg<n
def WK.walks:WK->Bool|.rc=>true|.dn=>true|_=>false
def YL(J Wg c n0:Nat)(Zf Sst:Nat->Prop)(k:WK)(S:Nat->Nat->Prop)(n:Nat):Prop:=if k.walks=true then Ex1 J Wg c n0 Sst S n else Ex2 Wg Zf Sst S n
theorem YL.lt{J Wg c n0:Nat}{Zf Sst:Nat->Prop}{k:WK}{S:Nat->Nat->Prop}{n:Nat}(h:YL J Wg c n0 Zf Sst k S n):Wg<n:=by unfold YL at h;split at h;exact h.2.2.2.2.2.2;exact h.2.2
structure Wq (P:Program) (ty:TypeId) (Wg:Nat) where
 R:Goroutine->World->Prop
 D:Goroutine->World->Prop
 laterR:∀{g W W1},R g W->Rv W W1->R g W1
 laterD:∀{g W W1},D g W->Rv W W1->D g W1
 runR:∀g W,R g W->g.status=.running
 runD:∀g W,D g W->∀w,WgLive ty Wg w->g.status=.running
theorem pI{J:Nat}{k:WK}(h:XA J k≠0):XA J k=J∧k≠.gone:=by cases k<;>simp_all [XA]
theorem sQ{J:Nat}{k:WK}(h:k≠.gone):XA J k=J:=by cases k<;>simp_all [XA]
theorem Is{P:Program}{ty:TypeId}{Wg n:Nat}{g:Goroutine}{W W1:World}{QR QD:Goroutine->World->Prop}{k:WK}(hR:∀{g W W1},QR g W->Rv W W1->QR g W1)(hD:∀{g W W1},QD g W->Rv W W1->QD g W1)(h:QW P ty Wg QR QD k n g W)(r:Rv W W1):QW P ty Wg QR QD k n g W1:=by cases k<;>first|exact hR h r|exact hD h r|exact h
theorem D7{J Wg c n0:Nat}{Zf Sst:Nat->Prop}{k:WK}{m:MK}{S:Nat->Nat->Prop}{n n' i:Nat}(hi:i=0∨i=XA J k)(hl:¬((i=0∧m≠.own)∨(i=J∧i≠0∧k.lib=true)))(hn:n<=n')(h:YL J Wg c n0 Zf Sst k S n):YL J Wg c n0 Zf Sst k (λj b=>S j b∨(j≠i∧n<=b∧b<n')) n':=by
 unfold YL at h ⊢;split at h
 ·rename_i hw;rw[UD hw];have hk:k≠.gone:=λe=>(by rw[e] at hw;cases hw);rw[sQ hk] at hi;obtain⟨h1,h2,h3,h4,h6,h7,h5⟩:=h;refine⟨λj b hj hb=>?_,λb hb=>⟨.inl (h2 b hb).1,.inl (h2 b hb).2⟩,⟨.inl h3.1,.inl h3.2⟩,λb x y=>?_,λb hb U8=>?_,Nat.le_trans h7 hn,Nat.lt_of_lt_of_le h5 hn⟩
  ·rcases hb with hb|⟨_,_,hb⟩
   exact Nat.lt_of_lt_of_le (h1 j b hj hb) hn;exact hb
  ·rcases x with x|⟨x1,x2,x3⟩
   ·rcases y with y|⟨y1,y2,y3⟩
    exact h4 b x y;exact Uw (h1 0 b (.inl rfl) x) (by omega)
   rcases y with y|⟨y1,y2,y3⟩
   exact Uw (h1 J b (.inr rfl) y) (by omega);rcases hi with e|e;exact Uw e.symm x1;exact Uw e.symm y1
  rcases hb with hb|⟨_,x2,_⟩
  exact h6 b hb U8;omega
 rename_i hw;rw[UC hw];refine⟨λb hb=>?_,λb hb=>.inl (h.2.1 b hb),Nat.lt_of_lt_of_le h.2.2 hn⟩;rcases hb with hb|⟨h0,-⟩
 exact h.1 b hb;exfalso;have Xp:i≠0:=λe=>h0 e.symm;rcases hi with e|e;exact Xp e;obtain⟨e2,hk⟩:=pI (J:=J) (k:=k) (by rw[<-e];exact Xp);exact hl (.inr ⟨e.trans e2,Xp,by cases k<;>first|rfl|exact Uw rfl hk|exact Uw rfl hw⟩)
def Wk(P:Program)(ty:TypeId)(J Wg c:Nat)(X:Wq P ty Wg)(Sh Sst Rm:Nat->Prop)(Fin:Goroutine->Prop)(hFin:∀g,Fin g->g.status=.running)(Zf:Nat->Prop)(zf:Nat->Option Obj)(hZ:Zf Wg)(w0:World)(m:MK)(mf:Nat)(k:WK)(kf:Nat):Cw P:=
 cwP P (XA J k) Wg Sh Rm (λi=>(i=0∧m≠.own)∨(i=J∧i≠0∧k.lib=true))
  (λi g W=>(i=0->QM P ty Wg Fin (k≠.gone) m mf g)∧(i≠0->QW P ty Wg X.R X.D k kf g W)) Zf (Xo ty Wg zf m k) m.deaf (pR J m k) (Xc J Wg m k) (YL J Wg c w0.heap.size Zf Sst k) w0
  (λh r=>⟨h.1,λe=>Is X.laterR X.laterD (h.2 e) r⟩)
  (λh hz=>by have hw:=ef (ty:=ty) (Wg:=Wg) (by have:=hz Wg hZ;unfold Xo at this;rwa [UD rfl] at this);exact⟨λe=>Dc hFin (h.1 e) hw,λe=>Db X.runR X.runD (h.2 e) hw⟩)
  (λt u k h=>DC t u k h)
  (λh0 hl S n hE t p y hy hg _=>by obtain⟨e,hk⟩:=pI h0;rw[e] at hl hg;have hw:k.walks=true:=(by cases k<;>first|rfl|exact Uw rfl hk|exact Uw (.inr ⟨rfl,e▸h0,rfl⟩) hl);have Wp:Knows t J p:=(by have:=knows_own hy;rwa [hg] at this);exact⟨λe=>Uw e hk,by cases k<;>first|exact Wp|cases hw⟩)
  (λ{S n n' i} hi hl hn h=>D7 hi hl hn h)
theorem mg{g d:Nat}{op:MemOp}(h:op.g≠g):deafStep g d op=d:=by unfold deafStep;split<;>first|rfl|exact UC h
section
variable {J Wg:Nat}{Sh Rm:Nat->Prop}{KJ KJ':Trace->Nat->Prop}{Ex:(Nat->Nat->Prop)->Nat->Prop}{dm dw:Nat}{t u:Trace}{n:Nat}{S:Nat->Nat->Prop}{op:MemOp}
theorem iv0(h:ivP J Wg Sh Rm dm (if J=0 then dm else dw) KJ Ex S n t)(Wi:Sh Wg)(hg:op.g=0)(hl:(∀a:Addr,op.act≠.mark (.release a))∧op.act.low n∧(op.act.touch? = none∨(∃a wr,op.act=.access ⟨.cell a,wr,true⟩∧a.block=Wg)∨∃a:Addr,(op.act=.mark (.read a)∨op.act=.mark (.write a))∧a.block=Wg))
  (kj:∀k,KJ t k->KJ' (t++#[op]) k):ivP J Wg Sh Rm (deafStep 0 dm op) (if J=0 then deafStep 0 dm op else dw) KJ' Ex S n (t++#[op]):=by
 have:=h.lib Wi (op:=op) (KJ':=KJ') ⟨hl.1,hl.2.1,hl.2.2.imp id (.imp (λ⟨a,wr,x,y⟩=>⟨a,wr,x,y,.inl hg⟩) λx=>⟨hg,x⟩)⟩ (.inl hg) kj;by_cases h0:J=0;subst h0;simpa using this;rw[UC h0] at this ⊢
 rwa [mg (g:=J) (by rw[hg];exact λe=>h0 e.symm)] at this
theorem ivJ(h:ivP J Wg Sh Rm dm dw KJ Ex S n t)(hJ:J≠0)(Wi:Sh Wg)(hg:op.g=J)(hl:(∀a:Addr,op.act≠.mark (.release a))∧op.act.low n∧(op.act.touch? = none∨(∃a wr,op.act=.access ⟨.cell a,wr,true⟩∧a.block=Wg)∧dw≠0))
  (kj:∀k,KJ t k->KJ' (t++#[op]) k):ivP J Wg Sh Rm dm (deafStep J dw op) KJ' Ex S n (t++#[op]):=by
 have:=h.lib Wi (op:=op) (KJ':=KJ') ⟨hl.1,hl.2.1,hl.2.2.imp id λ⟨⟨a,wr,x,y⟩,z⟩=>.inl ⟨a,wr,x,y,.inr z⟩⟩ (.inr hg) kj
 rwa [mg (g:=0) (by rw[hg];exact hJ)] at this
theorem ivP.alone(h:ivP J Wg Sh Rm dm dw KJ Ex S n t):ivP 0 Wg Sh Rm dm dm KJ Ex S n t:=by obtain⟨h1,h2,h3,h4⟩:=h;exact⟨⟨h1.clean,λi hi=>h1.known i (hi.elim .inl .inl),h1.seen⟩,⟨h2.d0,h2.d0,h2.norel,λk a x y=>⟨λe=>⟨((h2.wg k a x y).1 e).1,((h2.wg k a x y).1 e).1⟩,(h2.wg k a x y).2⟩,h2.all⟩,λi hi=>h3 i (hi.elim .inl .inl),h4⟩
end
section
variable {P:Program}{ty:TypeId}{J Wg c:Nat}{X:Wq P ty Wg}{Sh Sst Rm:Nat->Prop}{Fin:Goroutine->Prop}{hFin:∀g,Fin g->g.status=.running}{Zf:Nat->Prop}{zf:Nat->Option Obj}{hZ:Zf Wg}{w0:World}{m m':MK}{mf mf':Nat}{k k':WK}{kf kf':Nat}
 {C:Cw P} {gs:Array Goroutine} {w w':World} {t:Trace} {S:Nat->Nat->Prop} {V:Nat->World} {rk:Nat->Rk} {q:Nat->Nat} {g g':Goroutine} {es:Array Event} {sl:Option (Nat×Nat)}
open Go.ConcN (sumTo upd sumTo_upd upd_ne upd_same)
theorem kE{Wg:Nat}{w w':World}(h:Aside Wg w w'):qh (λb=>b=Wg) w w':=⟨h.size,λb hb=>h.block b hb,h.os,h.tape,h.output⟩
theorem MO(h:bC (Wk P ty J Wg c X Sh Sst Rm Fin hFin Zf zf hZ w0 m mf k kf) gs w t S V rk q)(hi:gs[0]? = some g)(hs:stepG P true g w=.go g' w' es)(hw:Aside Wg w w')(hg:QM P ty Wg Fin (k≠.gone) m' mf' g')
  (hz:w'.heap[Wg]? = some (wgBlock ty (Zz m' k) (Zm m' k))) (hiv:ivP (XA J k) Wg Sh Rm m'.deaf (pR J m' k) (Xc J Wg m' k) (YL J Wg c w0.heap.size Zf Sst k) S w.heap.size (t++MemOp.ofEvents 0 g.frame.fn g.frame.place es)) :
  ∃Vq V' rk',runT P (crowd gs w sl) 0=(.next (crowd Vq w' sl),MemOp.ofEvents 0 g.frame.fn g.frame.place es)∧bC (Wk P ty J Wg c X Sh Sst Rm Fin hFin Zf zf hZ w0 m' mf' k kf) Vq w' (t++MemOp.ofEvents 0 g.frame.fn g.frame.place es) S V' rk' q:=by
 refine⟨_,_,_,runT_crowd_go hi hs,h.Mj (C':=Wk P ty J Wg c X Sh Sst Rm Fin hFin Zf zf hZ w0 m' mf' k kf) rfl (λj=>Iff.rfl) rfl (Ch:=λb=>b=Wg) (λb hb j hj=>hb▸h.trace.2.2.1 j hj) (kE hw) (.inl rfl) hi (r:=.leaf) ⟨λ_=>hg,λe=>Uw rfl e⟩ (λj y hj U2 hy=>?_) (λb hb=>?_) hiv λj hj=>?_⟩
 ·have XR:XA J k≠0:=λe=>U2 (by rcases hj with x|x;exact x;exact x.trans e);obtain⟨e,hk⟩:=pI XR;have hj2:j=J:=(by rcases hj with x|x;exact Uw x U2;exact x.trans e);have hq:=h.walk j y hj hy;cases hr:rk j with
  | leaf=>
   rw[hr] at hq;exact⟨λe=>Uw e U2,λ_=>Db X.runR X.runD (hq.2 U2) (ef hz)⟩
  | mk f=>
   rw[hr] at hq;rw[woken_run hq.1];have e2:(Wk P ty J Wg c X Sh Sst Rm Fin hFin Zf zf hZ w0 m mf k kf).Q j=(Wk P ty J Wg c X Sh Sst Rm Fin hFin Zf zf hZ w0 m' mf' k kf).Q j:=by
    funext a b;show ((j=0->QM P ty Wg Fin (k≠.gone) m mf a)∧(j≠0->QW P ty Wg X.R X.D k kf a b))=((j=0->QM P ty Wg Fin (k≠.gone) m' mf' a)∧(j≠0->QW P ty Wg X.R X.D k kf a b))
    simp[U2]
   rw[<-e2];exact hq
 ·refine⟨(h.common b hb).1,?_⟩;show _=Xo ty Wg zf m' k b;unfold Xo;by_cases e:b=Wg;rw[UD e,e];exact hz;rw[UC e,hw.block b e];have:=(h.common b hb).2;change _=Xo ty Wg zf m k b at this;unfold Xo at this
  rwa [UC e] at this
 refine⟨λU2=>?_,λ_=>rfl⟩;rcases hj with ⟨e,-⟩|e
 exact Uw e U2;exact h.still j (.inr e)
theorem LF(h:bC (Wk P ty J Wg c X Sh Sst Rm Fin hFin Zf zf hZ w0 m mf k kf) gs w t S V rk q)(hJ:J≠0)(Yv:k.lib=true)(hkl':k'.lib=true)(hi:gs[J]? = some g)(hs:stepG P false g w=.go g' w' es)(hw:Aside Wg w w')(hg:QW P ty Wg X.R X.D k' kf' g' (V J))
  (hz:w'.heap[Wg]? = some (wgBlock ty (Zz m k') (Zm m k'))) (hiv:ivP J Wg Sh Rm m.deaf k'.deaf (Xc J Wg m k') (YL J Wg c w0.heap.size Zf Sst k') S w.heap.size (t++MemOp.ofEvents J g.frame.fn g.frame.place es)) :
  ∃Vq V' rk',runT P (crowd gs w sl) J=(.next (crowd Vq w' sl),MemOp.ofEvents J g.frame.fn g.frame.place es)∧bC (Wk P ty J Wg c X Sh Sst Rm Fin hFin Zf zf hZ w0 m mf k' kf') Vq w' (t++MemOp.ofEvents J g.frame.fn g.frame.place es) S V' rk' q:=by
 have hk:k≠.gone:=λe=>by rw[e] at Yv;cases Yv
 have WL:k'≠.gone:=λe=>by rw[e] at hkl';cases hkl'
 have ej:=sQ (J:=J) hk;have ej':=sQ (J:=J) WL;have Yy:(J==0)=false:=by simpa using hJ
 refine⟨_,_,_,runT_crowd_go hi (by rw[Yy];exact hs),h.Mj (C':=Wk P ty J Wg c X Sh Sst Rm Fin hFin Zf zf hZ w0 m mf k' kf') rfl (λj=>?_) rfl (Ch:=λb=>b=Wg) (λb hb j hj=>hb▸h.trace.2.2.1 j hj) (kE hw) (.inr ej.symm) hi (r:=.leaf) ⟨λe=>Uw e hJ,λ_=>hg⟩ (λj y hj U2 hy=>?_) (λb hb=>?_) ?_ λj hj=>?_⟩;show (j=0∨j=XA J k')↔(j=0∨j=XA J k);rw[ej,ej']
 ·have Za:j=0:=(by rcases hj with x|x;exact x;exact Uw (x.trans ej) U2);subst Za;have hq:=h.walk 0 y hj hy;have hw2:=ef hz;have key:Xd P ((Wk P ty J Wg c X Sh Sst Rm Fin hFin Zf zf hZ w0 m mf k' kf').Q 0) (rk 0) y (V 0):=by
   cases hr:rk 0 with
   | leaf=>
    rw[hr] at hq;refine⟨λe=>?_,λe=>Uw rfl e⟩;have:=hq.1 rfl;simpa[hk,WL] using this
   | mk f=>
    rw[hr] at hq;have hm:(Wk P ty J Wg c X Sh Sst Rm Fin hFin Zf zf hZ w0 m mf k kf).Q 0=(Wk P ty J Wg c X Sh Sst Rm Fin hFin Zf zf hZ w0 m mf k' kf').Q 0:=by
     funext a b;show ((0=0->QM P ty Wg Fin (k≠.gone) m mf a)∧(0≠0->_))=((0=0->QM P ty Wg Fin (k'≠.gone) m mf a)∧(0≠0->_))
     simp[hk,WL]
    rw[<-hm];exact hq
  cases hr:rk 0 with
  | leaf=>rw[hr] at key;exact⟨λe=>Dc hFin (key.1 e) hw2,λe=>Uw rfl e⟩
  | mk f=>rw[hr] at key;rw[woken_run key.1];exact key
 ·refine⟨(h.common b hb).1,?_⟩;show _=Xo ty Wg zf m k' b;unfold Xo;by_cases e:b=Wg;rw[UD e,e];exact hz;rw[UC e,hw.block b e];have:=(h.common b hb).2;change _=Xo ty Wg zf m k b at this;unfold Xo at this
  rwa [UC e] at this
 show ivP (XA J k') Wg Sh Rm m.deaf (pR J m k') (Xc J Wg m k') (YL J Wg c w0.heap.size Zf Sst k') S w.heap.size _;unfold pR;rw[ej',UC hJ];exact hiv;refine⟨λU2=>?_,λ_=>rfl⟩;rcases hj with e|⟨e,-⟩
 exact h.still j (.inl e);exact Uw e U2
end
end Go.Proofs.YtgigkennhdolpaaGreatDoor
