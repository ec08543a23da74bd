/- Company, 7: ranks of walks. -/
import Derived.Test.YtmdpdknpapjchaaGreatDoorM0
import Derived.Conc.TokenTrace
import Derived.Conc.WgGenN3
set_option linter.all false
namespace Go.Proofs.YtmdpdknpapjchaaGreatDoor
section
open Go.Conc
variable {e:Event}{y:MemOp}{i j n n' p:Nat}{S:Nat->Nat->Prop}{R act act':Nat->Prop}{P:Program}{t u:Trace}{w:World}
inductive Rk where
 | leaf
 | mk (f:World->Rk)
instance:Inhabited Rk:=⟨.leaf⟩
def Rk.Sub(p:Rk):Rk->Prop
 | .leaf=>False
 | .mk f=>∃W,p=f W
theorem Rk.wf:∀r:Rk,Acc Rk.Sub r
 | .leaf=>⟨_,λ_ h=>h.elim⟩
 | .mk f=>⟨_,λ_ ⟨W,e⟩=>e▸Rk.wf (f W)⟩
def Low(n:Nat)(p q:Nat->Rk):Prop:=∃i,i<n∧(p i).Sub (q i)∧∀j,j≠i->p j=q j
theorem OO:∀(n:Nat) (q:Nat->Rk),Acc (Low n) q:=by
 intro n
 induction n with
 | zero=>exact λq=>⟨_,λp ⟨i,h,_⟩=>P' h (F1 i)⟩
 | succ n ih=>
  have key:∀r:Rk,∀q:Nat->Rk,q n=r->Acc (Low (n+1)) q:=by
   intro r
   induction Rk.wf r with
   | intro r _ ihr=>
    intro q
    induction ih q with
    | intro q _ ihq=>
     intro hq;refine⟨_,λp ⟨i,hi,h1,h2⟩=>?_⟩;by_cases hn:i=n;subst hn;exact ihr (p i) (hq▸h1) p rfl;exact ihq p ⟨i,by omega,h1,h2⟩ ((h2 n (Ne.symm hn)).trans hq)
  exact λq=>key (q n) q rfl
def ZP(P:Program)(Q:Goroutine->World->Prop):Rk->Goroutine->World->Prop
 | .leaf,g,W=>Q g W
 | .mk f,g,W=>g.status=.running∧∀W1,Rv W W1->∃g' W',Gk P g W1 g' W'∧ZP P Q (f W1) g' W'
section
variable {Q:Goroutine->World->Prop}{g:Goroutine}{W W1:World}{r:Rk}
theorem Gs.dS(h:Gs P Q g W):∃r,ZP P Q r g W:=by
 classical
 induction h with
 | stop h=>exact⟨.leaf,h⟩
 | @step g W hs G' W' h k ih=>
  refine⟨.mk λW1=>if r:Rv W W1 then(ih W1 r).choose else .leaf,hs,λW1 r=>⟨G' W1,W' W1,h W1 r,?_⟩⟩;simp only[dif_pos r];exact(ih W1 r).choose_spec
theorem ZP.later(hQ:∀{g W W1},Q g W->Rv W W1->Q g W1)(h:ZP P Q r g W)(k:Rv W W1):ZP P Q r g W1:=by
 cases r with
 | leaf=>exact hQ h k
 | mk f=>exact⟨h.1,λW2 h2=>h.2 W2 (k.trans h2)⟩
end
open Go.ConcN (sumTo upd sumTo_upd upd_ne upd_same)
theorem GO{m m':Machine}{M:Nat}(h:step P m=.next m'):runN P (M+1) m=runN P M m':=by show (match step P m with|.next m=>runN P M m|e=>e)=_;rw[h]
theorem Ends.next{P:Program}{Φ:Value->World->Prop}{m m':Machine}{t:Trace}{ops:Array MemOp}(hs:stepT P m=(.next m',ops))(h:Ends P Φ m' (t++ops)):Ends P Φ m t:=by obtain⟨M,last,o,w',t',h1,h2,h3,h4⟩:=h;refine⟨M+1,last,o,w',t',?_,?_,h3,h4⟩;rw[runNT_succ_next hs];exact h1;rw[GO (show step P m=.next m' by unfold step;rw[hs])];exact h2
section
variable {Φ:Value->World->Prop}{w00:World}{S0 S:Nat->Prop}
theorem View.at_{W:World}(h:View S R w W)(d:Nat):View S R (w.at d) (W.at d):=⟨h.tape,rfl,h.os,h.output,h.size,h.same,h.lent,h.pois,h.plain⟩
theorem Rv.at_(W:World)(d:Nat):Rv W (W.at d):=⟨rfl,rfl,rfl,λ_ _ h=>h⟩
theorem Lv{Z9:Loc->Prop}(Za:∀l,Z9 l->∃a:Addr,l=.cell a∧S a.block)(h:EvS S R n e):EvL Z9 n e:=by
 obtain⟨loc,wr,sy⟩:=e;cases loc with
 | cell a=>
  obtain⟨h1,h2,-⟩:=h;refine⟨λx hx hs=>?_,(by simp),(by simp),h2⟩;have:x.loc=.cell a:=(by simp only[MemAct.ofEvent,MemAct.touch?,Option.some.injEq] at hx;rw[<-hx]);obtain⟨a',e1,e2⟩:=Za _ hs;rw[this] at e1;injection e1 with e1;exact P' (e1▸e2) h1
 | obj r=>
  obtain⟨h1,h2,-⟩:=h;have key:∀x,(MemAct.ofEvent {loc:=Loc.obj r,write:=wr,sync:=sy}).touch? = some x->¬Z9 x.loc:=λx hx hs=>(by have:x.loc=.obj r:=(by cases wr<;>cases sy<;>simp[MemAct.ofEvent,MemAct.touch?] at hx<;>rw[<-hx]);obtain⟨a',e1,e2⟩:=Za _ hs;rw[this] at e1;cases e1);refine⟨λx hx hs=>P' hs (key x hx),?_,?_,?_⟩<;>cases wr<;>cases sy<;>first|exact h2|simp[MemAct.ofEvent]|simp[MemAct.ofEvent,MemAct.low,h2]
 | mark m=>
  have h:m=.noRoom:=h;subst h;exact⟨λx hx=>by simp[MemAct.ofEvent,MemAct.touch?] at hx,by simp,by simp,trivial⟩
 | output=>exact h.elim
 | goroutines=>exact h.elim
theorem mY(h:∀(k:Nat) (a:Addr),t.act? k≠some (.mark (.release a)))(hu:∀op∈u,∀a:Addr,op.act≠.mark (.release a)):∀(k:Nat) (a:Addr),(t++u).act? k≠some (.mark (.release a)):=λk a e=>by
 obtain⟨op,ho,hoa⟩:=Option.map_eq_some_iff.1 e;rcases getElem?_append_cases ho with ⟨_,Zt⟩|⟨_,hou⟩
 exact h k a (by rw[act?_of Zt,hoa]);exact hu op hou a hoa
theorem w7(h:EvS S R n e)(a:Addr):MemAct.ofEvent e≠.mark (.release a):=by
 obtain⟨loc,wr,sy⟩:=e;cases loc with
 | cell b=>simp[MemAct.ofEvent]
 | obj r=>cases wr<;>cases sy<;>simp[MemAct.ofEvent]
 | mark m=>
  have h:m=.noRoom:=h;subst h;simp[MemAct.ofEvent]
 | output=>exact h.elim
 | goroutines=>exact h.elim
theorem tW(h:Event.mute e=true)(a:Addr):MemAct.ofEvent e≠.mark (.release a):=by
 obtain⟨loc,wr,sy⟩:=e;cases loc with
 | mark m=>cases m<;>simp[Event.mute] at h<;>simp[MemAct.ofEvent]
 | _=>simp[Event.mute] at h
theorem np{co:Bool} : Closed P co (Er P Φ w00 S0) where
 par:=λ_ f args W R h cs hc=>h Φ w00 S0 cs hc
 mono:=λh k W1 h1=>h W1 (k.trans h1)
 step:=by
  intro g W XV Zr W1 h1 hz S w gs sl t hv hs0 h0 hB;obtain⟨⟨q,hL⟩,⟨Z9,hP,Za⟩,hqt⟩:=hB;obtain⟨M,hM⟩:∃M,sumTo gs.size q<=M:=⟨_,F2 _⟩
  induction M using Nat.strongRecOn generalizing gs w W1 sl t q with
  | ind M ih=>
   have haw:∀g∈gs,awake g:=(by intro x hg;obtain⟨i,hi,rfl⟩:=Array.mem_iff_getElem.1 hg;rcases Nat.eq_zero_or_pos i with rfl|hpos;have:gs[0]=g:=(by simpa[F' hi] using h0);rw[this];exact awake_of (.inl XV);exact awake_of ((hL.old i _ hpos (F' hi)).status.elim .inl λx=>.inr (.inr x)));obtain⟨i,g2,d,Z2,hi,hg,Ya⟩:=crowd_pick (P:=P) (w:=w) (sl:=sl) haw ⟨0,g,h0,XV⟩;rcases Nat.eq_zero_or_pos i with rfl|hpos;obtain rfl:g2=g:=(by rw[h0] at hi;exact(Oi hi).symm);obtain⟨g',W',hV,hE⟩:=Zr (W1.at d) (h1.trans (Rv.at_ W1 d));obtain⟨w',es,hgo,hv',hk,Z1⟩:=hV true S (λ_=>False) (w.at d) (hv.at_ d);have hrunT:=runT_crowd_go (P:=P) (sl:=Z2) (i:=0) hi (show stepG P (0==0) g2 (w.at d)=_ from hgo);have X0:0<gs.size:=(E'.1 h0).1;refine Ends.next (Ya.trans hrunT) (hE W' (Rv.refl W') (by have e1:=hv.size;have e2:=hv'.size;have e3:w.heap.size<=w'.heap.size:=hk.size;omega) S w' _ Z2 _ hv' ⟨λb hb=>⟨(hs0.1 b hb).1,(hk.same b (.inl (hs0.1 b hb).1)).trans (hs0.1 b hb).2⟩,hs0.2⟩ (by simp[X0]) ⟨⟨q,⟨λj x hj hx=>?_,λj hj=>?_⟩⟩,⟨Z9,?_,Za⟩,mY hqt λop XZ a=>by obtain⟨e,ZX,rfl⟩:=Go.Conc.mem_ofEvents XZ;exact w7 (Z1 e ZX) a⟩);have XW:0≠j:=(by omega);rw[M' XW,Array.getElem?_map] at hx;obtain⟨y,hy,rfl⟩:=Option.map_eq_some_iff.1 hx;have hq:=hL.old j y hj hy;rw[woken_quitsD hq,Deaf_other t (by omega) _ (λop XZ=>by obtain⟨e,_,rfl⟩:=Go.Conc.mem_ofEvents XZ;rfl)];exact hq;rw[Deaf_other t (g':=0) (by simp at hj;omega) _ (λop XZ=>by obtain⟨e,_,rfl⟩:=Go.Conc.mem_ofEvents XZ;rfl)];exact hL.above j (by simpa using hj);exact(hP.mono (show w.heap.size<=w'.heap.size from hk.size)).own λe he=>Lv Za (Z1 e he);have hq:=hL.old i g2 hpos hi;have Z0:(i==0)=false:=(by simp;omega);have X0:i<gs.size:=(E'.1 hi).1;cases hqi:q i with
   | zero=>rw[hqi] at hq;rw[hq.1] at hg;cases hg
   | succ k=>
    rw[hqi] at hq;rcases hq with ⟨hf,_⟩|⟨_,g',es,hm,hstp,hq'⟩
    rw[hf] at hg;cases hg;have hrunT:=runT_crowd_go (P:=P) (sl:=Z2) (i:=i) hi (by rw[Z0];exact hstp (w.at d));have hsum:sumTo gs.size (upd q i k)+(k+1)=sumTo gs.size q+k:=(by have:=sumTo_upd q k id X0;simpa[hqi] using this);have Y8:((gs.map (woken P g2 g' (w.at d))).setIfInBounds i g').size=gs.size:=(by simp);refine Ends.next (Ya.trans hrunT) (ih (M-1) (by omega) (W1.at d) (h1.trans (Rv.at_ W1 d)) hz (w.at d) _ Z2 _ (hv.at_ d) hs0 ?_ (mY hqt λop XZ a=>by obtain⟨e,ZX,rfl⟩:=Go.Conc.mem_ofEvents XZ;exact tW (hm e ZX) a) (upd q i k) ⟨λj x hj hx=>?_,λj hj=>?_⟩ (hP.mute (by omega) hm) (by rw[Y8];omega));have XW:i≠0:=(by omega);rw[M' XW,Array.getElem?_map,h0];simp[woken_run XV];by_cases hji:i=j;subst hji;rw[Array.getElem?_setIfInBounds_self_of_lt (by simpa using X0)] at hx;obtain rfl:=Oi hx;rw[upd_same,Deaf_own];exact hq';rw[M' hji,Array.getElem?_map] at hx;obtain⟨y,hy,rfl⟩:=Option.map_eq_some_iff.1 hx;have hqj:=hL.old j y hj hy;rw[woken_quitsD hqj,upd_ne q k (Ne.symm hji),Deaf_other t hji _ (λop XZ=>by obtain⟨e,_,rfl⟩:=Go.Conc.mem_ofEvents XZ;rfl)];exact hqj;rw[Deaf_other t (g':=i) (by simp at hj;omega) _ (λop XZ=>by obtain⟨e,_,rfl⟩:=Go.Conc.mem_ofEvents XZ;rfl)];exact hL.above j (by simpa using hj)
end
open Go.ConcN (sumTo upd sumTo_upd upd_ne upd_same)
structure Bas (a w:World):Prop where
 os:w.os=a.os
 tape:w.tape=a.tape
 output:w.output=a.output
structure Cw (P:Program) where
 act:Nat->Prop
 zero:act 0
 lib:Nat->Prop
 w0:World
 Q:Nat->Goroutine->World->Prop
 R:Nat->Nat->Prop
 Zb:Nat->Prop
 z:Nat->Option Obj
 Iv:(Nat->Nat->Prop)->Nat->Trace->Prop
 later:∀{i:Nat} {g:Goroutine} {W W1:World},Q i g W->Rv W W1->Q i g W1
 Cd:∀{i:Nat} {g p p':Goroutine} {W w':World},Q i g W->(∀b,Zb b->w'.heap[b]? = z b)->Q i (woken P p p' w' g) W
 own:∀{S:Nat->Nat->Prop} {n n':Nat} {t:Trace} {i:Nat} {fn:FuncId} {pos:String} {es:Array Event},act i->¬lib i->Iv S n t->n<=n'->
  (∀j k:Nat,act j->act k->j≠k->∀b,b<n->S j b∨S k b∨R k b)->(∀e∈es,EvS (S i) (R i) n' e)->
  Iv (λj b=>S j b∨(j≠i∧n<=b∧b<n')) n' (t++MemOp.ofEvents i fn pos es)
 mute:∀{S:Nat->Nat->Prop} {n:Nat} {t:Trace} {i:Nat} {fn:FuncId} {pos:String} {es:Array Event},¬act i->Iv S n t->(∀e∈es,Event.mute e=true)->Iv S n (t++MemOp.ofEvents i fn pos es)
variable {C:Cw P}
structure bC {P:Program} (C:Cw P) (gs:Array Goroutine) (w:World) (t:Trace) (S:Nat->Nat->Prop) (V:Nat->World) (rk:Nat->Rk) (q:Nat->Nat):Prop where
 walk:∀(i:Nat) (g:Goroutine),C.act i->gs[i]? = some g->ZP P (C.Q i) (rk i) g (V i)
 view:∀i:Nat,C.act i->View (S i) (C.R i) w (V i)
 apart:∀i j:Nat,C.act i->C.act j->i≠j->∀b,b<w.heap.size->S i b∨S j b∨C.R j b
 common:∀b:Nat,C.Zb b->(∀i,C.act i->S i b∨C.R i b)∧w.heap[b]? = C.z b
 old:∀(i:Nat) (g:Goroutine),¬C.act i->gs[i]? = some g->QuitsD P (q i) (Deaf t i) g
 above:∀j:Nat,gs.size<=j->Deaf t j=0
 trace:C.Iv S w.heap.size t
 still:∀i:Nat,C.lib i->rk i=.leaf
 here:∀i:Nat,C.act i->i<gs.size
 base:Bas C.w0 w
section
variable {Φ:Value->World->Prop}{gs:Array Goroutine}{V:Nat->World}{rk:Nat->Rk}{q:Nat->Nat}
theorem ZP.at_{Q:Goroutine->World->Prop}(hQ:∀{g W W1},Q g W->Rv W W1->Q g W1){r:Rk}{g:Goroutine}{W:World}(h:ZP P Q r g W)(d:Nat):ZP P Q r g (W.at d):=h.later hQ (Rv.at_ W d)
theorem bC.at_(h:bC C gs w t S V rk q)(d:Nat):bC C gs (w.at d) t S (λi=>(V i).at d) rk q:=
 ⟨λi g ha hg=>ZP.at_ (Q:=C.Q i) (λh r=>C.later h r) (h.walk i g ha hg) d,λi ha=>(h.view i ha).at_ d,h.apart,h.common,h.old,h.above,h.trace,h.still,h.here,⟨h.base.os,h.base.tape,h.base.output⟩⟩
theorem ZP.Cd{i:Nat}{r:Rk}{g p p':Goroutine}{W w':World}(h:ZP P (C.Q i) r g W)(hz:∀b,C.Zb b->w'.heap[b]? = C.z b):ZP P (C.Q i) r (woken P p p' w' g) W:=by
 cases r with
 | leaf=>exact C.Cd h hz
 | mk f=>rw[woken_run h.1];exact h
theorem bC.step(h:bC C gs w t S V rk q){i:Nat}{g:Goroutine}(ha:C.act i)(hi:gs[i]? = some g){f:World->Rk}(hr:rk i=.mk f)(sl:Option (Nat×Nat)) :
  ∃g' w' es S' V' rk',runT P (crowd gs w sl) i=(.next (crowd ((gs.map (woken P g g' w')).setIfInBounds i g') w' sl),MemOp.ofEvents i g.frame.fn g.frame.place es)∧Low gs.size rk' rk ∧
   bC C ((gs.map (woken P g g' w')).setIfInBounds i g') w' (t++MemOp.ofEvents i g.frame.fn g.frame.place es) S' V' rk' q:=by
 have X0:i<gs.size:=(E'.1 hi).1;have hw:=h.walk i g ha hi;rw[hr] at hw;obtain⟨XV,Zr⟩:=hw;obtain⟨g',W',hV,hG⟩:=Zr (V i) (Rv.refl _);obtain⟨w',es,hgo,hv',hk,Z1⟩:=hV (i==0) (S i) (C.R i) w (h.view i ha);have hnx:∀j:Nat,∃W2,C.act j->j≠i->Rv (V j) W2∧View (λb=>S j b∨(w.heap.size<=b∧b<w'.heap.size)) (C.R j) w' W2:=λj=>by
  by_cases hj:C.act j∧j≠i
  ·obtain⟨W2,k1,k2⟩:=(h.view j hj.1).beside hk (λb hb=>by
    rcases h.apart j i hj.1 ha hj.2 b hb with x|x|x;exact .inl x;exact .inr (.inl x)
    ·exact .inr (.inr x)) (λb hb=>by rw[(h.view j hj.1).size];exact(h.view j hj.1).low (.inr hb))
   exact⟨W2,λ_ _=>⟨k1,k2⟩⟩
  exact⟨V j,λa b=>P' ⟨a,b⟩ hj⟩
 have hz:∀b,C.Zb b->w'.heap[b]? = C.z b:=λb hb=>(hk.same b ((h.common b hb).1 i ha)).trans (h.common b hb).2
 classical
 refine⟨g',w',es,λj b=>S j b∨(j≠i∧w.heap.size<=b∧b<w'.heap.size),λj=>if j=i then W' else(hnx j).choose,upd rk i (f (V i)),runT_crowd_go hi hgo,⟨i,X0,?_,λj hj=>upd_ne rk _ hj⟩,?_⟩;rw[upd_same,hr];exact⟨V i,rfl⟩;refine⟨λj x hj hx=>?_,λj hj=>?_,λj k hj ZH XW b hb=>?_,λb hb=>⟨λj hj=>((h.common b hb).1 j hj).imp .inl id,hz b hb⟩,λj x hj hx=>?_,λj hj=>?_,C.own ha (λhl=>by have:=h.still i hl;rw[hr] at this;cases this) h.trace hk.size h.apart Z1,λj hj=>?_,λj hj=>by simpa using h.here j hj,⟨hk.os.trans h.base.os,hk.tape.trans h.base.tape,hk.output.trans h.base.output⟩⟩;by_cases e:j=i;subst e;rw[Array.getElem?_setIfInBounds_self_of_lt (by simpa using X0)] at hx;obtain rfl:=Oi hx;rw[upd_same];simp only[if_true];exact hG;rw[M' (Ne.symm e),Array.getElem?_map] at hx;obtain⟨y,hy,rfl⟩:=Option.map_eq_some_iff.1 hx;rw[upd_ne rk _ e];simp only[Xk e];exact(ZP.later (Q:=C.Q j) (λh r=>C.later h r) (h.walk j y hj hy) ((hnx j).choose_spec hj e).1).Cd hz;by_cases e:j=i;have e2:(λb=>S j b∨(j≠i∧w.heap.size<=b∧b<w'.heap.size))=S i:=(by subst e;funext b;simp);rw[e2];simp only[Xl e];exact e▸hv';have e2:(λb=>S j b∨(j≠i∧w.heap.size<=b∧b<w'.heap.size))=λb=>S j b∨(w.heap.size<=b∧b<w'.heap.size):=(by funext b;simp[e]);rw[e2];simp only[Xk e];exact((hnx j).choose_spec hj e).2;by_cases Zh:b<w.heap.size;rcases h.apart j k hj ZH XW b Zh with x|x|x;exact .inl (.inl x);exact .inr (.inl (.inl x));exact .inr (.inr x);by_cases e:j=i;exact .inr (.inl (.inr ⟨λe'=>XW (e.trans e'.symm),by omega,hb⟩));exact .inl (.inr ⟨e,by omega,hb⟩);have e:j≠i:=λe=>hj (e▸ha);rw[M' (Ne.symm e),Array.getElem?_map] at hx;obtain⟨y,hy,rfl⟩:=Option.map_eq_some_iff.1 hx;have hq:=h.old j y hj hy;rw[woken_quitsD hq,Deaf_other t (Ne.symm e) _ (λop XZ=>by obtain⟨e,_,rfl⟩:=Go.Conc.mem_ofEvents XZ;rfl)];exact hq;rw[Deaf_other t (g':=i) (by simp at hj;omega) _ (λop XZ=>by obtain⟨e,_,rfl⟩:=Go.Conc.mem_ofEvents XZ;rfl)];exact h.above j (by simpa using hj);have e:j≠i:=λe=>by have:=h.still i (e▸hj);rw[hr] at this;cases this
 rw[upd_ne rk _ e];exact h.still j hj
theorem bC.leave(h:bC C gs w t S V rk q){g:Goroutine}(ha:¬C.act i)(hi:gs[i]? = some g)(hg:g.status=.running)(sl:Option (Nat×Nat)) :
  ∃Yn es k,q i=k+1∧Yn.size=gs.size∧runT P (crowd gs w sl) i=(.next (crowd Yn w sl),MemOp.ofEvents i g.frame.fn g.frame.place es)∧bC C Yn w (t++MemOp.ofEvents i g.frame.fn g.frame.place es) S V rk (upd q i k):=by
 have hq:=h.old i g ha hi;have hpos:i≠0:=λe=>ha (e▸C.zero);have Z0:(i==0)=false:=by simpa using hpos
 have X0:i<gs.size:=(E'.1 hi).1;cases hqi:q i with
 | zero=>rw[hqi] at hq;rw[hq.1] at hg;cases hg
 | succ k=>
  rw[hqi] at hq;rcases hq with ⟨hf,_⟩|⟨_,g',es,hm,hstp,hq'⟩
  rw[hf] at hg;cases hg;refine⟨(gs.map (woken P g g' w)).setIfInBounds i g',es,k,rfl,by simp,runT_crowd_go hi (by rw[Z0];exact hstp w),?_⟩;refine⟨λj x hj hx=>?_,h.view,h.apart,h.common,λj x hj hx=>?_,λj hj=>?_,C.mute ha h.trace hm,h.still,λj hj=>by simpa using h.here j hj,h.base⟩;have e:j≠i:=λe=>ha (e▸hj);rw[M' (Ne.symm e),Array.getElem?_map] at hx;obtain⟨y,hy,rfl⟩:=Option.map_eq_some_iff.1 hx;exact(h.walk j y hj hy).Cd λb hb=>(h.common b hb).2;by_cases e:j=i;subst e;rw[Array.getElem?_setIfInBounds_self_of_lt (by simpa using X0)] at hx;obtain rfl:=Oi hx;rw[upd_same,Deaf_own];exact hq';rw[M' (Ne.symm e),Array.getElem?_map] at hx;obtain⟨y,hy,rfl⟩:=Option.map_eq_some_iff.1 hx;have hqj:=h.old j y hj hy;rw[woken_quitsD hqj,upd_ne q k e,Deaf_other t (Ne.symm e) _ (λop XZ=>by obtain⟨e,_,rfl⟩:=Go.Conc.mem_ofEvents XZ;rfl)];exact hqj;rw[Deaf_other t (g':=i) (by simp at hj;omega) _ (λop XZ=>by obtain⟨e,_,rfl⟩:=Go.Conc.mem_ofEvents XZ;rfl)];exact h.above j (by simpa using hj)
end
def kO:Loc->Option Nat
 | .cell a=>some a.block
 | .obj r=>some r
 | _=>none
theorem oN{l:Loc}(h:l.isMemory=true):∃b,kO l=some b:=by cases l<;>first|exact⟨_,rfl⟩|cases h
structure Kn (act:Nat->Prop) (R:Nat->Nat->Prop) (S:Nat->Nat->Prop) (n:Nat) (t:Trace):Prop where
 clean:∀said,¬Race said t
 known:∀i,act i->∀k a,touchAt t k=some a->∀b,kO a.loc=some b->S i b∨(R i b∧a.write=false)∨Knows t i k
 seen:∀op∈t,op.act.low n
theorem nj{S:Nat->Prop}(h:EvS S R n e){x:Touch}(hx:(MemAct.ofEvent e).touch? = some x){b:Nat}(hb:kO x.loc=some b):¬S b∧b<n∧(x.write=true->¬R b):=by
 obtain⟨loc,wr,sy⟩:=e;cases loc with
 | cell a=>
  obtain⟨h1,h2,h3⟩:=h;simp only[MemAct.ofEvent,MemAct.touch?,Option.some.injEq] at hx;subst hx;obtain rfl:=Oi hb;exact⟨h1,h2,h3⟩
 | obj r=>
  obtain⟨h1,h2,h3⟩:=h;cases wr<;>cases sy<;>simp[MemAct.ofEvent,MemAct.touch?] at hx<;>subst hx<;>obtain rfl:=Oi hb<;>exact⟨h1,h2,λ_=>h3⟩
 | mark m=>
  have h:m=.noRoom:=h;subst h;simp[MemAct.ofEvent,MemAct.touch?] at hx
 | output=>exact h.elim
 | goroutines=>exact h.elim
theorem PD{S:Nat->Prop}(h:EvS S R n e):(MemAct.ofEvent e).low n:=by
 obtain⟨loc,wr,sy⟩:=e;cases loc with
 | cell a=>exact h.2.1
 | obj r=>cases wr<;>cases sy<;>exact h.2.1
 | mark m=>
  have h:m=.noRoom:=h;subst h;trivial
 | output=>exact h.elim
 | goroutines=>exact h.elim
section
variable {R:Nat->Nat->Prop}{fn:FuncId}{pos:String}{es:Array Event}
theorem Kn.own(ha:act i)(h:Kn act R S n t)(hn:n<=n')(hd:∀j k:Nat,act j->act k->j≠k->∀b,b<n->S j b∨S k b∨R k b)(he:∀e∈es,EvS (S i) (R i) n' e) :
  Kn act R (λj b=>S j b∨(j≠i∧n<=b∧b<n')) n' (t++MemOp.ofEvents i fn pos es):=by
 refine⟨λsaid=>noRace_append (h.clean said) (λop XZ=>by obtain⟨e,_,rfl⟩:=Go.Conc.mem_ofEvents XZ;rfl) λk a hka op XZ b hb hc=>?_,λj hj k a hka b hb=>?_,λop XZ=>?_⟩;obtain⟨e,ZX,rfl⟩:=Go.Conc.mem_ofEvents XZ;obtain⟨c1,c2,c3,_⟩:=hc;obtain⟨b0,hb0⟩:=oN c2;obtain⟨q1,q2,q3⟩:=nj (he e ZX) hb (c1▸hb0);rcases h.known i ha k a hka b0 hb0 with x|⟨x,y⟩|x;exact(q1 x).elim;rcases c3 with c3|c3;rw[y] at c3;cases c3;exact(q3 c3 x).elim;exact x
 ·obtain⟨x,hx,hxa⟩:=touch_of hka;rcases getElem?_append_cases hx with ⟨hi,Zy⟩|⟨_,hxu⟩
  rcases h.known j hj k a (by rw[touchAt_of Zy];exact hxa) b hb with y|y|y;exact .inl (.inl y);exact .inr (.inl y);exact .inr (.inr (y.app _));obtain⟨e,ZX,rfl⟩:=Go.Conc.mem_ofEvents hxu;by_cases hji:j=i;subst hji;exact .inr (.inr (knows_own hx));obtain⟨q1,q2,q3⟩:=nj (he e ZX) hxa hb;by_cases hbn:b<n
  ·rcases hd j i hj ha hji b hbn with y|y|y;exact .inl (.inl y);exact(q1 y).elim;rcases hd i j ha hj (Ne.symm hji) b hbn with z|z|z;exact(q1 z).elim;exact .inl (.inl z);refine .inr (.inl ⟨z,?_⟩);cases hw:a.write with
   | false=>rfl
   | true=>exact(q3 hw y).elim
  exact .inl (.inr ⟨hji,by omega,q2⟩)
 rcases Array.mem_append.1 XZ with x|x;exact MemAct.low_mono hn (h.seen op x);obtain⟨e,ZX,rfl⟩:=Go.Conc.mem_ofEvents x;exact PD (he e ZX)
theorem Kn.mute(h:Kn act R S n t)(hm:∀e∈es,Event.mute e=true):Kn act R S n (t++MemOp.ofEvents i fn pos es):=by
 refine⟨λsaid=>noRace_append (h.clean said) (λop XZ=>by obtain⟨e,_,rfl⟩:=Go.Conc.mem_ofEvents XZ;rfl) λk a hka op XZ b hb hc=>?_,λj hj k a hka b hb=>?_,λop XZ=>?_⟩;obtain⟨e,ZX,rfl⟩:=Go.Conc.mem_ofEvents XZ;rw[touch_mute (hm e ZX)] at hb;cases hb
 ·obtain⟨x,hx,hxa⟩:=touch_of hka;rcases getElem?_append_cases hx with ⟨hi,Zy⟩|⟨_,hxu⟩
  rcases h.known j hj k a (by rw[touchAt_of Zy];exact hxa) b hb with y|y|y;exact .inl y;exact .inr (.inl y);exact .inr (.inr (y.app _));obtain⟨e,ZX,rfl⟩:=Go.Conc.mem_ofEvents hxu;rw[touch_mute (hm e ZX)] at hxa;cases hxa
 rcases Array.mem_append.1 XZ with x|x;exact h.seen op x;obtain⟨e,ZX,rfl⟩:=Go.Conc.mem_ofEvents x;exact low_mute (hm e ZX) n
end
section
variable {R S':Nat->Nat->Prop}
theorem Kn.push(h:Kn act R S n t){op:MemOp}(hu:op.act.touch? = none)(hl:op.act.low n):Kn act R S n (t++#[op]):=by
 refine⟨λsaid=>noRace_append (g:=op.g) (h.clean said) (λx hx=>by simp at hx;rw[hx]) λk a hka x hx b hb hc=>?_,λj hj k a hka b hb=>?_,λx hx=>?_⟩;simp at hx;rw[hx,hu] at hb;cases hb
 ·obtain⟨x,hx,hxa⟩:=touch_of hka;rcases getElem?_append_cases hx with ⟨hi,Zy⟩|⟨_,hxu⟩
  rcases h.known j hj k a (by rw[touchAt_of Zy];exact hxa) b hb with y|y|y;exact .inl y;exact .inr (.inl y);exact .inr (.inr (y.app _));simp at hxu;rw[hxu,hu] at hxa;cases hxa
 rcases Array.mem_append.1 hx with x|x;exact h.seen _ x;simp at x;rw[x];exact hl
theorem Kn.still:∀{l:List MemOp} {t:Trace},Kn act R S n t->(∀op∈l,op.act.touch? = none∧op.act.low n)->Kn act R S n (t++l.toArray)
 | [],t,h,_=>by simpa using h
 | op::l,t,h,hu=>by
  have h1:=h.push (hu op (by simp)).1 (hu op (by simp)).2;have h2:=Kn.still (l:=l) h1 λx hx=>hu x (by simp[hx]);have e:t++(op::l).toArray=t++#[op]++l.toArray:=by
   rw[Array.append_assoc]
   congr 1
   simp
  rw[e];exact h2
theorem Pn{q:Nat}{x:MemOp}(hx:t[p]? = some x)(hy:t[q]? = some y)(hn:Notices t p q)(h1:t.deaf x.g p=0)(h2:t.deaf y.g q=0):HappensBefore t p q:=
 .single (.inr ⟨hn,⟨x.g,by simp[Trace.g?,hx],h1⟩,⟨y.g,by simp[Trace.g?,hy],h2⟩⟩)
end
section
variable {gs:Array Goroutine}{w':World}{V:Nat->World}{rk:Nat->Rk}{q:Nat->Nat}
end
section
variable {R:Nat->Nat->Prop}
theorem Kn.VO(h:Kn act R S n t)(hu:∀op∈u,op.g=i)(hk:∀said k a,touchAt t k=some a->∀op∈u,∀b,op.act.touch? = some b->a.conflicts said b->Knows t i k)
  (hz:∀op∈u,∀b,op.act.touch? = some b->∀b0,kO b.loc=some b0->∀j,act j->j≠i->S j b0) (hl:∀op∈u,op.act.low n):Kn act R S n (t++u):=by
 refine⟨λsaid=>noRace_append (h.clean said) hu λk a hka op XZ b hb hc=>hk said k a hka op XZ b hb hc,λj hj k a hka b hb=>?_,seen_app h.seen hl⟩;obtain⟨x,hx,hxa⟩:=touch_of hka;rcases getElem?_append_cases hx with ⟨_,Zy⟩|⟨_,hxu⟩
 rcases h.known j hj k a (by rw[touchAt_of Zy];exact hxa) b hb with y|y|y;exact .inl y;exact .inr (.inl y);exact .inr (.inr (y.app _));by_cases e:j=i;have:=knows_own hx;rw[hu x hxu,<-e] at this;exact .inr (.inr this);exact .inl (hz x hxu a hxa b hb j hj e)
end
section
variable {R R' S':Nat->Nat->Prop}{x:MemOp}
theorem Kn.fork(h:Kn act R S n t)(h0:act 0)(hd0:Deaf t 0=0)(hdj:Deaf t j=0)(hx:x.g=0∧x.act=.go j)(hy:y.g=j∧y.act=.start)(hS:∀b,S 0 b->S' j b)(hR:∀b,R 0 b->S' j b∨R' j b)
  (hSo:∀i,act i->∀b,S i b->S' i b) (hRo:∀i,act i->∀b,R i b->S' i b∨R' i b) (ha:∀i,act' i->act i∨i=j):Kn act' R' S' n (t++#[x,y]):=by
 have hb:=h.still (l:=[x,y]) λop XZ=>by simp at XZ;rcases XZ with rfl|rfl;rw[hx.2];exact⟨rfl,trivial⟩;rw[hy.2];exact⟨rfl,trivial⟩
 refine⟨hb.clean,λi hi k a hka b hbl=>?_,hb.seen⟩;rcases ha i hi with h1|rfl;rcases hb.known i h1 k a hka b hbl with z|⟨z,z2⟩|z;exact .inl (hSo i h1 b z);exact(hRo i h1 b z).imp id λz=>.inl ⟨z,z2⟩;exact .inr (.inr z);obtain⟨op,XZ,hopa⟩:=touch_of hka;rcases getElem?_append_cases XZ with ⟨YT,hop'⟩|⟨_,hopu⟩
 rcases h.known 0 h0 k a (by rw[touchAt_of hop'];exact hopa) b hbl with z|⟨z,z2⟩|z;exact .inl (hS b z);exact(hR b z).imp id λz=>.inl ⟨z,z2⟩;exact .inr (.inr (Go.ConcN.fork_knows hx hy hd0 hdj z));simp at hopu;rcases hopu with rfl|rfl;rw[hx.2] at hopa;cases hopa;rw[hy.2] at hopa;cases hopa
end
section
variable {R:Nat->Nat->Prop}{x1 x2 x3 x4:MemOp}{c m:Nat}
end
section
variable {R:Nat->Nat->Prop}{Si Ri Si':Nat->Prop}
theorem ug{a:Addr}{q:Nat}{x:MemOp}(hpq:p<q)(hx:t[p]? = some x)(hy:t[q]? = some y)(hxa:x.act=.mark (.release a)∨x.act=.mark (.releaseMerge a))(hya:y.act=.mark (.acquire a))(YY:∀k,t.act? k≠some (.mark (.release a)))(h1:t.deaf x.g p=0)(h2:t.deaf y.g q=0):Knows t y.g p:=
 ⟨q,y,hy,rfl,.inr (Pn hx hy (.marked (a:=a) hpq (hxa.imp (λe=>by simp[Trace.act?,hx,e]) λe=>by simp[Trace.act?,hx,e]) (by simp[Trace.act?,hy,hya]) λk _ _=>YY k) h1 h2)⟩
end
section
variable {R:Nat->Nat->Prop}{Z9:Loc->Prop}
theorem Ov(h:Past Z9 n t)(hS:∀l,Z9 l->∃a:Addr,l=.cell a∧S 0 a.block)(ha:∀i,act i->i=0):Kn act R S n t:=by
 refine⟨h.clean,λi hi k a hk b hb=>?_,h.seen⟩;obtain rfl:=ha i hi;have hm:a.loc.isMemory=true:=by cases e:a.loc<;>rw[e] at hb<;>first|rfl|cases hb
 rcases h.known k a hk hm with z|⟨z,_⟩
 exact .inr (.inr z);obtain⟨c,e1,e2⟩:=hS _ z;rw[e1] at hb;obtain rfl:=Oi hb;exact .inl e2
end
open Go.ConcN (sumTo upd sumTo_upd upd_ne upd_same)
def dc(gs:Array Goroutine):Nat:=(gs.toList.filter λg=>g.status==.running).length
section
variable {Φ:Value->World->Prop}
theorem lQ(live:∀{gs w t S V rk q},bC C gs w t S V rk q->(∀g∈gs,awake g)∧∃(i:Nat) (g:Goroutine),gs[i]? = some g∧g.status=.running)
  (stop:∀{gs w sl t S V rk q i g},bC C gs w t S V rk q->C.act i->gs[i]? = some g->g.status=.running->rk i=.leaf->C.Q i g (V i)->∃m' ops,runT P (crowd gs w sl) i=(.next m',ops) ∧
   (Ends P Φ m' (t++ops)∨∃Yn,m'=crowd Yn w sl∧Yn.size=gs.size∧dc Yn<dc gs∧bC C Yn w (t++ops) S V rk q)) :
  ∀{gs w sl t S V rk q},bC C gs w t S V rk q->Ends P Φ (crowd gs w sl) t:=by
 intro gs w sl t S V rk q h;obtain⟨n,hn⟩:∃n,n=gs.size:=⟨_,rfl⟩
 obtain⟨M,hM⟩:∃M,sumTo gs.size q<=M:=⟨_,F2 _⟩
 obtain⟨L,hL⟩:∃L,dc gs<=L:=⟨_,F2 _⟩
 induction OO n rk generalizing gs w sl t S V q M L with
 | intro rk _ ih=>
 induction M using Nat.strongRecOn generalizing gs w sl t S V q L with
 | ind M ih2=>
 induction L using Nat.strongRecOn generalizing gs w sl t S V q with
 | ind L ih3=>
 obtain⟨h1,h2⟩:=live h;obtain⟨i,g,d,Z2,hi,hg,Ya⟩:=crowd_pick (P:=P) (w:=w) (sl:=sl) h1 h2;have h':=h.at_ d;by_cases ha:C.act i
 ·cases hr:rk i with
  | leaf=>
   have hQ:=h'.walk i g ha hi;rw[hr] at hQ;obtain⟨m',ops,k1,k2|⟨Yn,rfl,k2,k3,k4⟩⟩:=stop (sl:=Z2) h' ha hi hg hr hQ;exact Ends.next (Ya.trans k1) k2;exact Ends.next (Ya.trans k1) (ih3 (dc Yn) (by omega) k4 (by omega) (by rw[k2];exact hM) (F2 _))
  | mk f=>
   obtain⟨g',w',es,S',V',rk',k1,k2,k3⟩:=h'.step ha hi hr Z2;exact Ends.next (Ya.trans k1) (ih rk' (hn▸k2) k3 (by simpa using hn) _ (F2 _) _ (F2 _))
 obtain⟨Yn,es,k,k0,kz,k1,k2⟩:=h'.leave ha hi hg Z2;have X0:i<gs.size:=(E'.1 hi).1;have hsum:sumTo gs.size (upd q i k)+(k+1)=sumTo gs.size q+k:=by have:=sumTo_upd q k id X0;simpa[k0] using this
 exact Ends.next (Ya.trans k1) (ih2 (M-1) (by omega) k2 (by omega) (by rw[kz];omega) _ (F2 _))
end
end
section
open Go.Conc Go.ConcN Go.RowKit Go.Conc.Lib Go.ConcR.Gen Go.ConcN.Gen
open Go.ConcR (KK wgBlock WgAt stA smA rd wr mk DC0)
variable {ops:Array Oper}{c x y:Code}{Wg id:Nat}
def Rl(ty:TypeId)(Wg:Nat)(w w₁:World):Prop:=WgLive ty Wg w->WgLive ty Wg w₁
theorem JC{ty:TypeId}(a b c:World)(h:Rl ty Wg a b)(k:Rl ty Wg b c):Rl ty Wg a c:=λx=>k (h x)
section
variable (P:Program)(main:Bool)(ty:TypeId)(Wg:Nat)
def Lqn(Stop:Goroutine->Prop)(n:Nat)(g:Goroutine):Prop:=∀w,WgLive ty Wg w->Goes P main (Rl ty Wg) DC0 (λg _=>Stop g) n g w
def Lq(Stop:Goroutine->Prop)(g:Goroutine):Prop:=∃n,Lqn P main ty Wg Stop n g
def AMk(m:Mark)(Nx:Goroutine->Prop)(g:Goroutine):Prop:=g.status=.running∧∃g',(∀w,stepG P main g w=.go g' w #[mk m])∧Nx g'
def Ug(Nx:Goroutine->Prop)(g:Goroutine):Prop:=g.status=.running∧∃g',(∀w,WgAt ty Wg w 0 0->stepG P main g w=.go g' (w.setCell (stA Wg) (.int .u64 KK)) #[rd (stA Wg),wr (stA Wg)])∧Nx g'
def ALd(Nx:Goroutine->Prop)(g:Goroutine):Prop:=g.status=.running∧∃g',(∀w,WgAt ty Wg w 0 0->stepG P main g w=.go g' w #[rd (stA Wg)])∧Nx g'
def Nr(N0 N1:Goroutine->Prop)(g:Goroutine):Prop:=g.status=.running∧(∃g',(∀w,WgAt ty Wg w 0 0->stepG P main g w=.go g' w #[rd (stA Wg)])∧N0 g')∧∃g',(∀w,WgAt ty Wg w KK 0->stepG P main g w=.go g' w #[rd (stA Wg)])∧N1 g'
def VZ(NH NM:Goroutine->Prop)(g:Goroutine):Prop:=
 g.status=.running∧(∃g',(∀w,WgAt ty Wg w KK 0->stepG P main g w=.go g' (w.setCell (stA Wg) (.int .u64 (KK+1))) #[rd (stA Wg),wr (stA Wg)])∧NH g')∧∃g',(∀w,WgAt ty Wg w 0 0->stepG P main g w=.go g' w #[rd (stA Wg)])∧NM g'
def D9(Nx:Goroutine->Prop)(g:Goroutine):Prop:=
 g.status=.running∧g.offers=none∧(∀w,(∃st,WgAt ty Wg w st 0)->stepG P main g w=.go {g with status:=.blocked} w #[]) ∧
  ∃g',(∀w,WgAt ty Wg w 0 1->stepG P main g w=.go g' (w.setCell (smA Wg) (.int .u32 0)) (semEvents (smA Wg)))∧Nx g'
def Uf(Fin:Goroutine->Prop):Goroutine->Prop:=Lq P main ty Wg (AMk P main .disable (Lq P main ty Wg (Ug P main ty Wg (Lq P main ty Wg (AMk P main (.read (smA Wg)) (Lq P main ty Wg (AMk P main .enable (Lq P main ty Wg Fin))))))))
def kS(Fin:Goroutine->Prop):Goroutine->Prop:=Lq P main ty Wg (AMk P main .enable (Lq P main ty Wg (AMk P main (.acquire (stA Wg)) (Lq P main ty Wg Fin))))
def QK(Fin:Goroutine->Prop):Goroutine->Prop:=Lq P main ty Wg (AMk P main (.write (smA Wg)) (Lq P main ty Wg (D9 P main ty Wg (Lq P main ty Wg (ALd P main ty Wg (kS P main ty Wg Fin))))))
def MT(Fin:Goroutine->Prop):Goroutine->Prop:=Lq P main ty Wg (VZ P main ty Wg (QK P main ty Wg Fin) (Lq P main ty Wg (ALd P main ty Wg (kS P main ty Wg Fin))))
def pJ(Fin:Goroutine->Prop):Goroutine->Prop:=Lq P main ty Wg (AMk P main .disable (Lq P main ty Wg (Nr P main ty Wg (kS P main ty Wg Fin) (MT P main ty Wg Fin))))
end
section
variable {P:Program}{main:Bool}{ty:TypeId}{Stop:Goroutine->Prop}{n:Nat}{g g':Goroutine}{b:Frame}{a:Act}{k:List Item}{cs:List Frame}
theorem aG(hs:g.status=.running)(h:∀w,WgLive ty Wg w->(stepG P main g w).goes λg' w' es=>DC0 w w' es∧Lqn P main ty Wg Stop n g'):Lqn P main ty Wg Stop (n+1) g:=λw hw=>Goes.step hs λw₁ h₁=>by
 have:=h w₁ (h₁ hw);revert this;cases Ya:stepG P main g w₁ with
 | go g' w' es=>
  rintro⟨⟨e1,e2⟩,h3⟩;subst e1 e2;exact⟨⟨rfl,rfl⟩,h3 _ (h₁ hw)⟩
 | _=>exact λx=>x
theorem dF(hs:g.status=.running)(h:∀w,stepG P main g w=.go g' w #[])(k:Lqn P main ty Wg Stop n g'):Lqn P main ty Wg Stop (n+1) g:=aG hs λw _=>by rw[h w];exact⟨⟨rfl,rfl⟩,k⟩
theorem bA(h:Stop g):Lqn P main ty Wg Stop n g:=λ_ _=>Goes.stop λ_ _=>h
theorem cZ(h:Lqn P main ty Wg Stop n (G (b.at a (.code x::.code y::k)) cs)):Lqn P main ty Wg Stop (n+1) (G (b.at a (.code (.seq x y)::k)) cs):=dF rfl (λ_=>stepG_seq) h
theorem cy(h:Lqn P main ty Wg Stop n (G (b.at a k) cs)):Lqn P main ty Wg Stop (n+1) (G (b.at a (.code .skip::k)) cs):=dF rfl (λ_=>stepG_skip) h
theorem aC(h:Lqn P main ty Wg Stop n (G (b.at a k) cs)):Lqn P main ty Wg Stop (n+1) (G (b.at a (.inRegion ops []::k)) cs):=dF rfl (λ_=>stepG_region_end) h
theorem cV(h:Lqn P main ty Wg Stop n (G (b.at a (.inRegion ops (List.range ops.size)::k)) cs)):Lqn P main ty Wg Stop (n+1) (G (b.at a (.code (.region id ops false)::k)) cs):=dF rfl (λ_=>stepG_region) h
theorem aM{c:Operand}(hc:a.eval c=.bool true)(h:Lqn P main ty Wg Stop n (G (b.at a (.code x::k)) cs)):Lqn P main ty Wg Stop (n+1) (G (b.at a (.code (.cond c x y)::k)) cs):=dF rfl (λ_=>stepG_cond hc) h
theorem aE{c:Operand}(hc:a.eval c=.bool false)(h:Lqn P main ty Wg Stop n (G (b.at a (.code y::k)) cs)):Lqn P main ty Wg Stop (n+1) (G (b.at a (.code (.cond c x y)::k)) cs):=dF rfl (λ_=>stepG_cond hc) h
theorem c6(h:Lqn P main ty Wg Stop n (G {b.at a (.code .ret::k) with mode:=.returning} cs)):Lqn P main ty Wg Stop (n+1) (G (b.at a (.code .ret::k)) cs):=dF rfl (λ_=>stepG_ret') h
theorem SQ(h:Lqn P main ty Wg Stop n (G {b.at a [] with mode:=.returning} cs)):Lqn P main ty Wg Stop (n+1) (G (b.at a []) cs):=dF rfl (λ_=>stepG_end) h
theorem bR(h:Lqn P main ty Wg Stop n (G (b.at a (.code c::.inBlock id::k)) cs)):Lqn P main ty Wg Stop (n+1) (G (b.at a (.code (.block id c)::k)) cs):=dF rfl (λ_=>stepG_block) h
theorem cz(h:Lqn P main ty Wg Stop n (G (b.at a (.code c::.inLoop c::k)) cs)):Lqn P main ty Wg Stop (n+1) (G (b.at a (.code (.loop c)::k)) cs):=dF rfl (λ_=>stepG_loop) h
theorem bs(h:Lqn P main ty Wg Stop n (G (b.at a (.code c::.inLoop c::k)) cs)):Lqn P main ty Wg Stop (n+1) (G (b.at a (.inLoop c::k)) cs):=dF rfl (λ_=>stepG_inLoop) h
theorem bc(h:Lqn P main ty Wg Stop n (G (b.at a k) cs)):Lqn P main ty Wg Stop (n+1) (G (b.at a (.inBlock id::k)) cs):=dF rfl (λ_=>stepG_inBlock) h
theorem cY{i:Nat}{rest:List Nat}{o:Oper}(ho:ops[i]? = some o)(hw:Region.wanted o (yielded ops a.tmps)=false)(h:Lqn P main ty Wg Stop n (G (b.at (a.put o.dst undef) (.inRegion ops rest::k)) cs)) :
  Lqn P main ty Wg Stop (n+1) (G (b.at a (.inRegion ops (i::rest)::k)) cs):=dF rfl (λ_=>stepG_unwanted ho hw) h
end
section
variable {P:Program}{L:WgLink}{b₀:Frame}{a₀:Act}{ops₀:Array Oper}{i₀:Nat}{rest₀:List Nat}{k₀:List Item}{cs:List Frame}
def IS(b₀:Frame)(a₀:Act)(ops₀:Array Oper)(i₀:Nat)(rest₀:List Nat)(k₀:List Item)(cs:List Frame)(g:Goroutine):Prop:=g=G (b₀.at (a₀.put ((ops₀[i₀]?).bind (·.dst)) (.tuple #[])) (.inRegion ops₀ rest₀::k₀)) cs
end
theorem mq{P:Program} : ∀{n m d:Nat} {g:Goroutine},n<=m->QuitsD P n d g->QuitsD P m d g
 | 0,0,_,_,_,h=>h
 | 0,_+1,_,_,_,h=>.inl h
 | _+1,0,_,_,hn,_=>P' hn (by omega)
 | _+1,_+1,_,_,hn,h=>h.imp id λ⟨h1,g',es,h2,h3,h4⟩=>⟨h1,g',es,h2,h3,mq (by omega) h4⟩
section
variable (P:Program)(ty:TypeId)(Wg:Nat)
def VY(NQ NW:Goroutine->Prop)(g:Goroutine):Prop:=
 g.status=.running∧(∃g',(∀w,WgAt ty Wg w KK 0->stepG P false g w=.go g' (w.setCell (stA Wg) (.int .u64 0)) #[rd (stA Wg),wr (stA Wg)])∧NQ g') ∧
  ∃g',(∀w,WgAt ty Wg w (KK+1) 0->stepG P false g w=.go g' (w.setCell (stA Wg) (.int .u64 1)) #[rd (stA Wg),wr (stA Wg)])∧NW g'
def VX(Nx:Goroutine->Prop)(g:Goroutine):Prop:=g.status=.running∧∃g',(∀w,WgAt ty Wg w 1 0->stepG P false g w=.go g' w #[rd (stA Wg)])∧Nx g'
def VV(Nx:Goroutine->Prop)(g:Goroutine):Prop:=g.status=.running∧∃g',(∀w,WgAt ty Wg w 1 0->stepG P false g w=.go g' (w.setCell (stA Wg) (.int .u64 0)) #[wr (stA Wg)])∧Nx g'
def VW(Nx:Goroutine->Prop)(g:Goroutine):Prop:=g.status=.running∧mayWake P g=true∧∃g',(∀w,WgAt ty Wg w 0 0->stepG P false g w=.go g' (w.setCell (smA Wg) (.int .u32 1)) (semEvents (smA Wg)))∧Nx g'
def Qt(g:Goroutine):Prop:=∃q,QuitsD P q 1 g
def VU:Goroutine->Prop:=Lq P false ty Wg (VW P ty Wg (Qt P))
def DSt:Goroutine->Prop:=Lq P false ty Wg (VV P ty Wg (VU P ty Wg))
def DLd:Goroutine->Prop:=Lq P false ty Wg (VX P ty Wg (DSt P ty Wg))
def Uc:Goroutine->Prop:=Lq P false ty Wg (VY P ty Wg (Qt P) (DLd P ty Wg))
def Nh:Goroutine->Prop:=Lq P false ty Wg (AMk P false (.releaseMerge (stA Wg)) (Lq P false ty Wg (AMk P false .disable (Uc P ty Wg))))
end
end
end Go.Proofs.YtmdpdknpapjchaaGreatDoor
