/- Company, 8: a crew: several goroutines walk, each in its view. -/
import Derived.Test.YtgigkennhdolpaaGreatDoorM19
import Derived.Conc.CrowdTrace
import Derived.Conc.TokenTrace
import Derived.Conc.WgGenN3
namespace Go.Proofs.YtgigkennhdolpaaGreatDoor
open Go.Conc
open Go.ConcN (sumTo upd sumTo_upd upd_ne upd_same)
structure Bas (a w:World):Prop where
 os:w.os=a.os
 tape:w.tape=a.tape
 output:w.output=a.output
structure Cw (P:Program) where
 act:Nat->Prop
 zero:act 0
 lib:Nat->Prop
 w0:World
 Q:Nat->Goroutine->World->Prop
 R:Nat->Nat->Prop
 Zb:Nat->Prop
 z:Nat->Option Obj
 Iv:(Nat->Nat->Prop)->Nat->Trace->Prop
 later:∀{i:Nat} {g:Goroutine} {W W1:World},Q i g W->Rv W W1->Q i g W1
 AO:∀{i:Nat} {g p p':Goroutine} {W w':World},Q i g W->(∀b,Zb b->w'.heap[b]? = z b)->Q i (woken P p p' w' g) W
 own:∀{S:Nat->Nat->Prop} {n n':Nat} {t:Trace} {i:Nat} {fn:FuncId} {pos:String} {es:Array Event},act i->¬lib i->Iv S n t->n<=n'->
  (∀j k:Nat,act j->act k->j≠k->∀b,b<n->S j b∨S k b∨R k b)->(∀e∈es,EvS (S i) (R i) n' e)->
  Iv (λj b=>S j b∨(j≠i∧n<=b∧b<n')) n' (t++MemOp.ofEvents i fn pos es)
 mute:∀{S:Nat->Nat->Prop} {n:Nat} {t:Trace} {i:Nat} {fn:FuncId} {pos:String} {es:Array Event},¬act i->Iv S n t->(∀e∈es,Event.mute e=true)->Iv S n (t++MemOp.ofEvents i fn pos es)
structure bC {P:Program} (C:Cw P) (gs:Array Goroutine) (w:World) (t:Trace) (S:Nat->Nat->Prop) (V:Nat->World) (rk:Nat->Rk) (q:Nat->Nat):Prop where
 walk:∀(i:Nat) (g:Goroutine),C.act i->gs[i]? = some g->Xd P (C.Q i) (rk i) g (V i)
 view:∀i:Nat,C.act i->View (S i) (C.R i) w (V i)
 apart:∀i j:Nat,C.act i->C.act j->i≠j->∀b,b<w.heap.size->S i b∨S j b∨C.R j b
 common:∀b:Nat,C.Zb b->(∀i,C.act i->S i b∨C.R i b)∧w.heap[b]? = C.z b
 old:∀(i:Nat) (g:Goroutine),¬C.act i->gs[i]? = some g->QuitsD P (q i) (Deaf t i) g
 above:∀j:Nat,gs.size<=j->Deaf t j=0
 trace:C.Iv S w.heap.size t
 still:∀i:Nat,C.lib i->rk i=.leaf
 here:∀i:Nat,C.act i->i<gs.size
 base:Bas C.w0 w
section
variable {P:Program}{C:Cw P}{Φ:Value->World->Prop}{gs:Array Goroutine}{w:World}{t:Trace}{S:Nat->Nat->Prop}{V:Nat->World}{rk:Nat->Rk}{q:Nat->Nat}
theorem Xd.at_{Q:Goroutine->World->Prop}(hQ:∀{g W W1},Q g W->Rv W W1->Q g W1){r:Rk}{g:Goroutine}{W:World}(h:Xd P Q r g W)(d:Nat):Xd P Q r g (W.at d):=h.later hQ (Rv.at_ W d)
theorem bC.at_(h:bC C gs w t S V rk q)(d:Nat):bC C gs (w.at d) t S (λi=>(V i).at d) rk q:=
 ⟨λi g ha hg=>Xd.at_ (Q:=C.Q i) (λh r=>C.later h r) (h.walk i g ha hg) d,λi ha=>(h.view i ha).at_ d,h.apart,h.common,h.old,h.above,h.trace,h.still,h.here,⟨h.base.os,h.base.tape,h.base.output⟩⟩
theorem Xd.AO{i:Nat}{r:Rk}{g p p':Goroutine}{W w':World}(h:Xd P (C.Q i) r g W)(hz:∀b,C.Zb b->w'.heap[b]? = C.z b):Xd P (C.Q i) r (woken P p p' w' g) W:=by
 cases r with
 | leaf=>exact C.AO h hz
 | mk f=>rw[woken_run h.1];exact h
theorem bC.step(h:bC C gs w t S V rk q){i:Nat}{g:Goroutine}(ha:C.act i)(hi:gs[i]? = some g){f:World->Rk}(hr:rk i=.mk f)(sl:Option (Nat×Nat)) :
  ∃g' w' es S' V' rk',runT P (crowd gs w sl) i=(.next (crowd ((gs.map (woken P g g' w')).setIfInBounds i g') w' sl),MemOp.ofEvents i g.frame.fn g.frame.place es)∧Low gs.size rk' rk ∧
   bC C ((gs.map (woken P g g' w')).setIfInBounds i g') w' (t++MemOp.ofEvents i g.frame.fn g.frame.place es) S' V' rk' q:=by
 have U8:i<gs.size:=(E'.1 hi).1;have hw:=h.walk i g ha hi;rw[hr] at hw;obtain⟨U6,Ww⟩:=hw;obtain⟨g',W',hV,hG⟩:=Ww (V i) (Rv.refl _);obtain⟨w',es,hgo,hv',hk,XL⟩:=hV (i==0) (S i) (C.R i) w (h.view i ha);have hnx:∀j:Nat,∃W2,C.act j->j≠i->Rv (V j) W2∧View (λb=>S j b∨(w.heap.size<=b∧b<w'.heap.size)) (C.R j) w' W2:=λj=>by
  by_cases hj:C.act j∧j≠i
  ·obtain⟨W2,k1,k2⟩:=(h.view j hj.1).beside hk (λb hb=>by
    rcases h.apart j i hj.1 ha hj.2 b hb with x|x|x;exact .inl x;exact .inr (.inl x)
    ·exact .inr (.inr x)) (λb hb=>by rw[(h.view j hj.1).size];exact(h.view j hj.1).low (.inr hb))
   exact⟨W2,λ_ _=>⟨k1,k2⟩⟩
  exact⟨V j,λa b=>Uw ⟨a,b⟩ hj⟩
 have hz:∀b,C.Zb b->w'.heap[b]? = C.z b:=λb hb=>(hk.same b ((h.common b hb).1 i ha)).trans (h.common b hb).2
 classical
 refine⟨g',w',es,λj b=>S j b∨(j≠i∧w.heap.size<=b∧b<w'.heap.size),λj=>if j=i then W' else(hnx j).choose,upd rk i (f (V i)),runT_crowd_go hi hgo,⟨i,U8,?_,λj hj=>upd_ne rk _ hj⟩,?_⟩;rw[upd_same,hr];exact⟨V i,rfl⟩;refine⟨λj x hj hx=>?_,λj hj=>?_,λj k hj WL U2 b hb=>?_,λb hb=>⟨λj hj=>((h.common b hb).1 j hj).imp .inl id,hz b hb⟩,λj x hj hx=>?_,λj hj=>?_,C.own ha (λhl=>by have:=h.still i hl;rw[hr] at this;cases this) h.trace hk.size h.apart XL,λj hj=>?_,λj hj=>by simpa using h.here j hj,⟨hk.os.trans h.base.os,hk.tape.trans h.base.tape,hk.output.trans h.base.output⟩⟩;by_cases e:j=i;subst e;rw[Array.getElem?_setIfInBounds_self_of_lt (by simpa using U8)] at hx;obtain rfl:=Oi hx;rw[upd_same];simp only[if_true];exact hG;rw[Uu (Ne.symm e),Array.getElem?_map] at hx;obtain⟨y,hy,rfl⟩:=Option.map_eq_some_iff.1 hx;rw[upd_ne rk _ e];simp only[UC e];exact(Xd.later (Q:=C.Q j) (λh r=>C.later h r) (h.walk j y hj hy) ((hnx j).choose_spec hj e).1).AO hz;by_cases e:j=i;have e2:(λb=>S j b∨(j≠i∧w.heap.size<=b∧b<w'.heap.size))=S i:=(by subst e;funext b;simp);rw[e2];simp only[UD e];exact e▸hv';have e2:(λb=>S j b∨(j≠i∧w.heap.size<=b∧b<w'.heap.size))=λb=>S j b∨(w.heap.size<=b∧b<w'.heap.size):=(by funext b;simp[e]);rw[e2];simp only[UC e];exact((hnx j).choose_spec hj e).2;by_cases WE:b<w.heap.size;rcases h.apart j k hj WL U2 b WE with x|x|x;exact .inl (.inl x);exact .inr (.inl (.inl x));exact .inr (.inr x);by_cases e:j=i;exact .inr (.inl (.inr ⟨λe'=>U2 (e.trans e'.symm),by omega,hb⟩));exact .inl (.inr ⟨e,by omega,hb⟩);have e:j≠i:=λe=>hj (e▸ha);rw[Uu (Ne.symm e),Array.getElem?_map] at hx;obtain⟨y,hy,rfl⟩:=Option.map_eq_some_iff.1 hx;have hq:=h.old j y hj hy;rw[woken_quitsD hq,Deaf_other t (Ne.symm e) _ (λop U5=>by obtain⟨e,_,rfl⟩:=Go.Conc.mem_ofEvents U5;rfl)];exact hq;rw[Deaf_other t (g':=i) (by simp at hj;omega) _ (λop U5=>by obtain⟨e,_,rfl⟩:=Go.Conc.mem_ofEvents U5;rfl)];exact h.above j (by simpa using hj);have e:j≠i:=λe=>by have:=h.still i (e▸hj);rw[hr] at this;cases this
 rw[upd_ne rk _ e];exact h.still j hj
theorem bC.leave(h:bC C gs w t S V rk q){i:Nat}{g:Goroutine}(ha:¬C.act i)(hi:gs[i]? = some g)(hg:g.status=.running)(sl:Option (Nat×Nat)) :
  ∃Vq es k,q i=k+1∧Vq.size=gs.size∧runT P (crowd gs w sl) i=(.next (crowd Vq w sl),MemOp.ofEvents i g.frame.fn g.frame.place es)∧bC C Vq w (t++MemOp.ofEvents i g.frame.fn g.frame.place es) S V rk (upd q i k):=by
 have hq:=h.old i g ha hi;have Y9:i≠0:=λe=>ha (e▸C.zero);have Xp:(i==0)=false:=by simpa using Y9
 have U8:i<gs.size:=(E'.1 hi).1;cases hqi:q i with
 | zero=>rw[hqi] at hq;rw[hq.1] at hg;cases hg
 | succ k=>
  rw[hqi] at hq;rcases hq with ⟨hf,_⟩|⟨_,g',es,hm,hstp,Y4⟩
  rw[hf] at hg;cases hg;refine⟨(gs.map (woken P g g' w)).setIfInBounds i g',es,k,rfl,by simp,runT_crowd_go hi (by rw[Xp];exact hstp w),?_⟩;refine⟨λj x hj hx=>?_,h.view,h.apart,h.common,λj x hj hx=>?_,λj hj=>?_,C.mute ha h.trace hm,h.still,λj hj=>by simpa using h.here j hj,h.base⟩;have e:j≠i:=λe=>ha (e▸hj);rw[Uu (Ne.symm e),Array.getElem?_map] at hx;obtain⟨y,hy,rfl⟩:=Option.map_eq_some_iff.1 hx;exact(h.walk j y hj hy).AO λb hb=>(h.common b hb).2;by_cases e:j=i;subst e;rw[Array.getElem?_setIfInBounds_self_of_lt (by simpa using U8)] at hx;obtain rfl:=Oi hx;rw[upd_same,Deaf_own];exact Y4;rw[Uu (Ne.symm e),Array.getElem?_map] at hx;obtain⟨y,hy,rfl⟩:=Option.map_eq_some_iff.1 hx;have hqj:=h.old j y hj hy;rw[woken_quitsD hqj,upd_ne q k e,Deaf_other t (Ne.symm e) _ (λop U5=>by obtain⟨e,_,rfl⟩:=Go.Conc.mem_ofEvents U5;rfl)];exact hqj;rw[Deaf_other t (g':=i) (by simp at hj;omega) _ (λop U5=>by obtain⟨e,_,rfl⟩:=Go.Conc.mem_ofEvents U5;rfl)];exact h.above j (by simpa using hj)
end
def kl:Loc->Option Nat
 | .cell a=>some a.block
 | .obj r=>some r
 | _=>none
theorem nP{l:Loc}(h:l.isMemory=true):∃b,kl l=some b:=by cases l<;>first|exact⟨_,rfl⟩|cases h
structure Kn (act:Nat->Prop) (R:Nat->Nat->Prop) (S:Nat->Nat->Prop) (n:Nat) (t:Trace):Prop where
 clean:∀said,¬Race said t
 known:∀i,act i->∀k a,touchAt t k=some a->∀b,kl a.loc=some b->S i b∨(R i b∧a.write=false)∨Knows t i k
 seen:∀op∈t,op.act.low n
theorem mI{S R:Nat->Prop}{n:Nat}{e:Event}(h:EvS S R n e){x:Touch}(hx:(MemAct.ofEvent e).touch? = some x){b:Nat}(hb:kl x.loc=some b):¬S b∧b<n∧(x.write=true->¬R b):=by
 obtain⟨loc,wr,sy⟩:=e;cases loc with
 | cell a=>
  obtain⟨h1,h2,h3⟩:=h;simp only[MemAct.ofEvent,MemAct.touch?,Option.some.injEq] at hx;subst hx;obtain rfl:=Oi hb;exact⟨h1,h2,h3⟩
 | obj r=>
  obtain⟨h1,h2,h3⟩:=h;cases wr<;>cases sy<;>simp[MemAct.ofEvent,MemAct.touch?] at hx<;>subst hx<;>obtain rfl:=Oi hb<;>exact⟨h1,h2,λ_=>h3⟩
 | mark m=>
  have h:m=.noRoom:=h;subst h;simp[MemAct.ofEvent,MemAct.touch?] at hx
 | output=>exact h.elim
 | goroutines=>exact h.elim
theorem Nr{S R:Nat->Prop}{n:Nat}{e:Event}(h:EvS S R n e):(MemAct.ofEvent e).low n:=by
 obtain⟨loc,wr,sy⟩:=e;cases loc with
 | cell a=>exact h.2.1
 | obj r=>cases wr<;>cases sy<;>exact h.2.1
 | mark m=>
  have h:m=.noRoom:=h;subst h;trivial
 | output=>exact h.elim
 | goroutines=>exact h.elim
section
variable {act:Nat->Prop}{R S:Nat->Nat->Prop}{n n':Nat}{t:Trace}{i:Nat}{fn:FuncId}{pos:String}{es:Array Event}
theorem Kn.own(ha:act i)(h:Kn act R S n t)(hn:n<=n')(hd:∀j k:Nat,act j->act k->j≠k->∀b,b<n->S j b∨S k b∨R k b)(he:∀e∈es,EvS (S i) (R i) n' e) :
  Kn act R (λj b=>S j b∨(j≠i∧n<=b∧b<n')) n' (t++MemOp.ofEvents i fn pos es):=by
 refine⟨λsaid=>noRace_append (h.clean said) (λop U5=>by obtain⟨e,_,rfl⟩:=Go.Conc.mem_ofEvents U5;rfl) λk a Zp op U5 b hb hc=>?_,λj hj k a Zp b hb=>?_,λop U5=>?_⟩;obtain⟨e,Xn,rfl⟩:=Go.Conc.mem_ofEvents U5;obtain⟨c1,c2,c3,_⟩:=hc;obtain⟨b0,hb0⟩:=nP c2;obtain⟨q1,q2,q3⟩:=mI (he e Xn) hb (c1▸hb0);rcases h.known i ha k a Zp b0 hb0 with x|⟨x,y⟩|x;exact(q1 x).elim;rcases c3 with c3|c3;rw[y] at c3;cases c3;exact(q3 c3 x).elim;exact x
 ·obtain⟨x,hx,XB⟩:=touch_of Zp;rcases getElem?_append_cases hx with ⟨hi,WJ⟩|⟨_,YB⟩
  rcases h.known j hj k a (by rw[touchAt_of WJ];exact XB) b hb with y|y|y;exact .inl (.inl y);exact .inr (.inl y);exact .inr (.inr (y.app _));obtain⟨e,Xn,rfl⟩:=Go.Conc.mem_ofEvents YB;by_cases XV:j=i;subst XV;exact .inr (.inr (knows_own hx));obtain⟨q1,q2,q3⟩:=mI (he e Xn) XB hb;by_cases hbn:b<n
  ·rcases hd j i hj ha XV b hbn with y|y|y;exact .inl (.inl y);exact(q1 y).elim;rcases hd i j ha hj (Ne.symm XV) b hbn with z|z|z;exact(q1 z).elim;exact .inl (.inl z);refine .inr (.inl ⟨z,?_⟩);cases hw:a.write with
   | false=>rfl
   | true=>exact(q3 hw y).elim
  exact .inl (.inr ⟨XV,by omega,q2⟩)
 rcases Array.mem_append.1 U5 with x|x;exact MemAct.low_mono hn (h.seen op x);obtain⟨e,Xn,rfl⟩:=Go.Conc.mem_ofEvents x;exact Nr (he e Xn)
theorem Kn.mute(h:Kn act R S n t)(hm:∀e∈es,Event.mute e=true):Kn act R S n (t++MemOp.ofEvents i fn pos es):=by
 refine⟨λsaid=>noRace_append (h.clean said) (λop U5=>by obtain⟨e,_,rfl⟩:=Go.Conc.mem_ofEvents U5;rfl) λk a Zp op U5 b hb hc=>?_,λj hj k a Zp b hb=>?_,λop U5=>?_⟩;obtain⟨e,Xn,rfl⟩:=Go.Conc.mem_ofEvents U5;rw[touch_mute (hm e Xn)] at hb;cases hb
 ·obtain⟨x,hx,XB⟩:=touch_of Zp;rcases getElem?_append_cases hx with ⟨hi,WJ⟩|⟨_,YB⟩
  rcases h.known j hj k a (by rw[touchAt_of WJ];exact XB) b hb with y|y|y;exact .inl y;exact .inr (.inl y);exact .inr (.inr (y.app _));obtain⟨e,Xn,rfl⟩:=Go.Conc.mem_ofEvents YB;rw[touch_mute (hm e Xn)] at XB;cases XB
 rcases Array.mem_append.1 U5 with x|x;exact h.seen op x;obtain⟨e,Xn,rfl⟩:=Go.Conc.mem_ofEvents x;exact low_mute (hm e Xn) n
end
section
variable {act act':Nat->Prop}{R S S':Nat->Nat->Prop}{n n':Nat}{t:Trace}{i j:Nat}
theorem Kn.push(h:Kn act R S n t){op:MemOp}(hu:op.act.touch? = none)(hl:op.act.low n):Kn act R S n (t++#[op]):=by
 refine⟨λsaid=>noRace_append (g:=op.g) (h.clean said) (λx hx=>by simp at hx;rw[hx]) λk a Zp x hx b hb hc=>?_,λj hj k a Zp b hb=>?_,λx hx=>?_⟩;simp at hx;rw[hx,hu] at hb;cases hb
 ·obtain⟨x,hx,XB⟩:=touch_of Zp;rcases getElem?_append_cases hx with ⟨hi,WJ⟩|⟨_,YB⟩
  rcases h.known j hj k a (by rw[touchAt_of WJ];exact XB) b hb with y|y|y;exact .inl y;exact .inr (.inl y);exact .inr (.inr (y.app _));simp at YB;rw[YB,hu] at XB;cases XB
 rcases Array.mem_append.1 hx with x|x;exact h.seen _ x;simp at x;rw[x];exact hl
theorem Kn.still:∀{l:List MemOp} {t:Trace},Kn act R S n t->(∀op∈l,op.act.touch? = none∧op.act.low n)->Kn act R S n (t++l.toArray)
 | [],t,h,_=>by simpa using h
 | op::l,t,h,hu=>by
  have h1:=h.push (hu op (by simp)).1 (hu op (by simp)).2;have h2:=Kn.still (l:=l) h1 λx hx=>hu x (by simp[hx]);have e:t++(op::l).toArray=t++#[op]++l.toArray:=by
   rw[Array.append_assoc]
   congr 1
   simp
  rw[e];exact h2
theorem Nf{t:Trace}{p q:Nat}{x y:MemOp}(hx:t[p]? = some x)(hy:t[q]? = some y)(hn:Notices t p q)(h1:t.deaf x.g p=0)(h2:t.deaf y.g q=0):HappensBefore t p q:=
 .single (.inr ⟨hn,⟨x.g,by simp[Trace.g?,hx],h1⟩,⟨y.g,by simp[Trace.g?,hy],h2⟩⟩)
end
section
variable {P:Program}{C:Cw P}{gs:Array Goroutine}{w w':World}{t u:Trace}{S:Nat->Nat->Prop}{V:Nat->World}{rk:Nat->Rk}{q:Nat->Nat}
end
section
variable {act:Nat->Prop}{R S:Nat->Nat->Prop}{n:Nat}{t u:Trace}{i:Nat}
theorem Kn.Ti(h:Kn act R S n t)(hu:∀op∈u,op.g=i)(hk:∀said k a,touchAt t k=some a->∀op∈u,∀b,op.act.touch? = some b->a.conflicts said b->Knows t i k)
  (hz:∀op∈u,∀b,op.act.touch? = some b->∀b0,kl b.loc=some b0->∀j,act j->j≠i->S j b0) (hl:∀op∈u,op.act.low n):Kn act R S n (t++u):=by
 refine⟨λsaid=>noRace_append (h.clean said) hu λk a Zp op U5 b hb hc=>hk said k a Zp op U5 b hb hc,λj hj k a Zp b hb=>?_,seen_app h.seen hl⟩;obtain⟨x,hx,XB⟩:=touch_of Zp;rcases getElem?_append_cases hx with ⟨_,WJ⟩|⟨_,YB⟩
 rcases h.known j hj k a (by rw[touchAt_of WJ];exact XB) b hb with y|y|y;exact .inl y;exact .inr (.inl y);exact .inr (.inr (y.app _));by_cases e:j=i;have:=knows_own hx;rw[hu x YB,<-e] at this;exact .inr (.inr this);exact .inl (hz x YB a XB b hb j hj e)
end
section
variable {act act':Nat->Prop}{R S R' S':Nat->Nat->Prop}{n:Nat}{t:Trace}{j:Nat}{x y:MemOp}
theorem Kn.fork(h:Kn act R S n t)(h0:act 0)(XM:Deaf t 0=0)(hdj:Deaf t j=0)(hx:x.g=0∧x.act=.go j)(hy:y.g=j∧y.act=.start)(hS:∀b,S 0 b->S' j b)(hR:∀b,R 0 b->S' j b∨R' j b)
  (hSo:∀i,act i->∀b,S i b->S' i b) (hRo:∀i,act i->∀b,R i b->S' i b∨R' i b) (ha:∀i,act' i->act i∨i=j):Kn act' R' S' n (t++#[x,y]):=by
 have hb:=h.still (l:=[x,y]) λop U5=>by simp at U5;rcases U5 with rfl|rfl;rw[hx.2];exact⟨rfl,trivial⟩;rw[hy.2];exact⟨rfl,trivial⟩
 refine⟨hb.clean,λi hi k a Zp b hbl=>?_,hb.seen⟩;rcases ha i hi with h1|rfl;rcases hb.known i h1 k a Zp b hbl with z|⟨z,z2⟩|z;exact .inl (hSo i h1 b z);exact(hRo i h1 b z).imp id λz=>.inl ⟨z,z2⟩;exact .inr (.inr z);obtain⟨op,U5,hopa⟩:=touch_of Zp;rcases getElem?_append_cases U5 with ⟨VZ,hop'⟩|⟨_,hopu⟩
 rcases h.known 0 h0 k a (by rw[touchAt_of hop'];exact hopa) b hbl with z|⟨z,z2⟩|z;exact .inl (hS b z);exact(hR b z).imp id λz=>.inl ⟨z,z2⟩;exact .inr (.inr (Go.ConcN.fork_knows hx hy XM hdj z));simp at hopu;rcases hopu with rfl|rfl;rw[hx.2] at hopa;cases hopa;rw[hy.2] at hopa;cases hopa
end
section
variable {act:Nat->Prop}{R S:Nat->Nat->Prop}{n:Nat}{t:Trace}{i j:Nat}{x1 x2 x3 x4:MemOp}{c m:Nat}
end
section
variable {act:Nat->Prop}{R S:Nat->Nat->Prop}{Si Ri Si':Nat->Prop}{n p:Nat}{t u:Trace}{i:Nat}
theorem sP{a:Addr}{q:Nat}{x y:MemOp}(hpq:p<q)(hx:t[p]? = some x)(hy:t[q]? = some y)(XB:x.act=.mark (.release a)∨x.act=.mark (.releaseMerge a))(hya:y.act=.mark (.acquire a))
  (V6:∀k,t.act? k≠some (.mark (.release a))) (h1:t.deaf x.g p=0) (h2:t.deaf y.g q=0):Knows t y.g p:=
 ⟨q,y,hy,rfl,.inr (Nf hx hy (.marked (a:=a) hpq (XB.imp (λe=>by simp[Trace.act?,hx,e]) λe=>by simp[Trace.act?,hx,e]) (by simp[Trace.act?,hy,hya]) λk _ _=>V6 k) h1 h2)⟩
end
section
variable {act:Nat->Prop}{R S:Nat->Nat->Prop}{Xv:Loc->Prop}{n:Nat}{t:Trace}
theorem Mw(h:Past Xv n t)(hS:∀l,Xv l->∃a:Addr,l=.cell a∧S 0 a.block)(ha:∀i,act i->i=0):Kn act R S n t:=by
 refine⟨h.clean,λi hi k a hk b hb=>?_,h.seen⟩;obtain rfl:=ha i hi;have hm:a.loc.isMemory=true:=by cases e:a.loc<;>rw[e] at hb<;>first|rfl|cases hb
 rcases h.known k a hk hm with z|⟨z,_⟩
 exact .inr (.inr z);obtain⟨c,e1,e2⟩:=hS _ z;rw[e1] at hb;obtain rfl:=Oi hb;exact .inl e2
end
open Go.ConcN (sumTo upd sumTo_upd upd_ne upd_same)
def db(gs:Array Goroutine):Nat:=(gs.toList.filter λg=>g.status==.running).length
section
variable {P:Program}{C:Cw P}{Φ:Value->World->Prop}
theorem lf(live:∀{gs w t S V rk q},bC C gs w t S V rk q->(∀g∈gs,awake g)∧∃(i:Nat) (g:Goroutine),gs[i]? = some g∧g.status=.running)
  (stop:∀{gs w sl t S V rk q i g},bC C gs w t S V rk q->C.act i->gs[i]? = some g->g.status=.running->rk i=.leaf->C.Q i g (V i)->∃m' ops,runT P (crowd gs w sl) i=(.next m',ops) ∧
   (Ends P Φ m' (t++ops)∨∃Vq,m'=crowd Vq w sl∧Vq.size=gs.size∧db Vq<db gs∧bC C Vq w (t++ops) S V rk q)) :
  ∀{gs w sl t S V rk q},bC C gs w t S V rk q->Ends P Φ (crowd gs w sl) t:=by
 intro gs w sl t S V rk q h;obtain⟨n,hn⟩:∃n,n=gs.size:=⟨_,rfl⟩
 obtain⟨M,hM⟩:∃M,sumTo gs.size q<=M:=⟨_,I' _⟩
 obtain⟨L,hL⟩:∃L,db gs<=L:=⟨_,I' _⟩
 induction MQ n rk generalizing gs w sl t S V q M L with
 | intro rk _ ih=>
 induction M using Nat.strongRecOn generalizing gs w sl t S V q L with
 | ind M ih2=>
 induction L using Nat.strongRecOn generalizing gs w sl t S V q with
 | ind L ih3=>
 obtain⟨h1,h2⟩:=live h;obtain⟨i,g,d,Xr,hi,hg,U7⟩:=crowd_pick (P:=P) (w:=w) (sl:=sl) h1 h2;have h':=h.at_ d;by_cases ha:C.act i
 ·cases hr:rk i with
  | leaf=>
   have hQ:=h'.walk i g ha hi;rw[hr] at hQ;obtain⟨m',ops,k1,k2|⟨Vq,rfl,k2,k3,k4⟩⟩:=stop (sl:=Xr) h' ha hi hg hr hQ;exact Ends.next (U7.trans k1) k2;exact Ends.next (U7.trans k1) (ih3 (db Vq) (by omega) k4 (by omega) (by rw[k2];exact hM) (I' _))
  | mk f=>
   obtain⟨g',w',es,S',V',rk',k1,k2,k3⟩:=h'.step ha hi hr Xr;exact Ends.next (U7.trans k1) (ih rk' (hn▸k2) k3 (by simpa using hn) _ (I' _) _ (I' _))
 obtain⟨Vq,es,k,k0,kz,k1,k2⟩:=h'.leave ha hi hg Xr;have U8:i<gs.size:=(E'.1 hi).1;have hsum:sumTo gs.size (upd q i k)+(k+1)=sumTo gs.size q+k:=by have:=sumTo_upd q k id U8;simpa[k0] using this
 exact Ends.next (U7.trans k1) (ih2 (M-1) (by omega) k2 (by omega) (by rw[kz];omega) _ (I' _))
end
end Go.Proofs.YtgigkennhdolpaaGreatDoor
namespace Go.Proofs.YtgigkennhdolpaaGreatDoor
open Go.Conc Go.ConcN Go.RowKit Go.Conc.Lib Go.ConcR.Gen Go.ConcN.Gen
open Go.ConcR (KK wgBlock WgAt stA smA rd wr mk DC0)
def Rl(ty:TypeId)(Wg:Nat)(w w₁:World):Prop:=WgLive ty Wg w->WgLive ty Wg w₁
theorem Ik{ty:TypeId}{Wg:Nat}(a b c:World)(h:Rl ty Wg a b)(k:Rl ty Wg b c):Rl ty Wg a c:=λx=>k (h x)
section
variable (P:Program)(main:Bool)(ty:TypeId)(Wg:Nat)
def Lqn(Stop:Goroutine->Prop)(n:Nat)(g:Goroutine):Prop:=∀w,WgLive ty Wg w->Goes P main (Rl ty Wg) DC0 (λg _=>Stop g) n g w
def Lq(Stop:Goroutine->Prop)(g:Goroutine):Prop:=∃n,Lqn P main ty Wg Stop n g
def XI(m:Mark)(Nx:Goroutine->Prop)(g:Goroutine):Prop:=g.status=.running∧∃g',(∀w,stepG P main g w=.go g' w #[mk m])∧Nx g'
def RD(Nx:Goroutine->Prop)(g:Goroutine):Prop:=g.status=.running∧∃g',(∀w,WgAt ty Wg w 0 0->stepG P main g w=.go g' (w.setCell (stA Wg) (.int .u64 KK)) #[rd (stA Wg),wr (stA Wg)])∧Nx g'
def ALd(Nx:Goroutine->Prop)(g:Goroutine):Prop:=g.status=.running∧∃g',(∀w,WgAt ty Wg w 0 0->stepG P main g w=.go g' w #[rd (stA Wg)])∧Nx g'
def Lz(N0 N1:Goroutine->Prop)(g:Goroutine):Prop:=g.status=.running∧(∃g',(∀w,WgAt ty Wg w 0 0->stepG P main g w=.go g' w #[rd (stA Wg)])∧N0 g')∧∃g',(∀w,WgAt ty Wg w KK 0->stepG P main g w=.go g' w #[rd (stA Wg)])∧N1 g'
def Tw(NH NM:Goroutine->Prop)(g:Goroutine):Prop:=
 g.status=.running∧(∃g',(∀w,WgAt ty Wg w KK 0->stepG P main g w=.go g' (w.setCell (stA Wg) (.int .u64 (KK+1))) #[rd (stA Wg),wr (stA Wg)])∧NH g')∧∃g',(∀w,WgAt ty Wg w 0 0->stepG P main g w=.go g' w #[rd (stA Wg)])∧NM g'
def CM(Nx:Goroutine->Prop)(g:Goroutine):Prop:=
 g.status=.running∧g.offers=none∧(∀w,(∃st,WgAt ty Wg w st 0)->stepG P main g w=.go {g with status:=.blocked} w #[]) ∧
  ∃g',(∀w,WgAt ty Wg w 0 1->stepG P main g w=.go g' (w.setCell (smA Wg) (.int .u32 0)) (semEvents (smA Wg)))∧Nx g'
def RB(Fin:Goroutine->Prop):Goroutine->Prop:=Lq P main ty Wg (XI P main .disable (Lq P main ty Wg (RD P main ty Wg (Lq P main ty Wg (XI P main (.read (smA Wg)) (Lq P main ty Wg (XI P main .enable (Lq P main ty Wg Fin))))))))
def kv(Fin:Goroutine->Prop):Goroutine->Prop:=Lq P main ty Wg (XI P main .enable (Lq P main ty Wg (XI P main (.acquire (stA Wg)) (Lq P main ty Wg Fin))))
def OH(Fin:Goroutine->Prop):Goroutine->Prop:=Lq P main ty Wg (XI P main (.write (smA Wg)) (Lq P main ty Wg (CM P main ty Wg (Lq P main ty Wg (ALd P main ty Wg (kv P main ty Wg Fin))))))
def Lc(Fin:Goroutine->Prop):Goroutine->Prop:=Lq P main ty Wg (Tw P main ty Wg (OH P main ty Wg Fin) (Lq P main ty Wg (ALd P main ty Wg (kv P main ty Wg Fin))))
def oX(Fin:Goroutine->Prop):Goroutine->Prop:=Lq P main ty Wg (XI P main .disable (Lq P main ty Wg (Lz P main ty Wg (kv P main ty Wg Fin) (Lc P main ty Wg Fin))))
end
section
variable {P:Program}{main:Bool}{ty:TypeId}{Wg:Nat}{Stop:Goroutine->Prop}{n:Nat}{g g':Goroutine}{b:Frame}{a:Act}{k:List Item}{cs:List Frame}
theorem aE(hs:g.status=.running)(h:∀w,WgLive ty Wg w->(stepG P main g w).goes λg' w' es=>DC0 w w' es∧Lqn P main ty Wg Stop n g'):Lqn P main ty Wg Stop (n+1) g:=λw hw=>Goes.step hs λw₁ h₁=>by
 have:=h w₁ (h₁ hw);revert this;cases U7:stepG P main g w₁ with
 | go g' w' es=>
  rintro⟨⟨e1,e2⟩,h3⟩;subst e1 e2;exact⟨⟨rfl,rfl⟩,h3 _ (h₁ hw)⟩
 | _=>exact λx=>x
theorem dH(hs:g.status=.running)(h:∀w,stepG P main g w=.go g' w #[])(k:Lqn P main ty Wg Stop n g'):Lqn P main ty Wg Stop (n+1) g:=aE hs λw _=>by rw[h w];exact⟨⟨rfl,rfl⟩,k⟩
theorem bA(h:Stop g):Lqn P main ty Wg Stop n g:=λ_ _=>Goes.stop λ_ _=>h
theorem cU{x y:Code}(h:Lqn P main ty Wg Stop n (G (b.at a (.code x::.code y::k)) cs)):Lqn P main ty Wg Stop (n+1) (G (b.at a (.code (.seq x y)::k)) cs):=dH rfl (λ_=>stepG_seq) h
theorem cn(h:Lqn P main ty Wg Stop n (G (b.at a k) cs)):Lqn P main ty Wg Stop (n+1) (G (b.at a (.code .skip::k)) cs):=dH rfl (λ_=>stepG_skip) h
theorem az{ops:Array Oper}(h:Lqn P main ty Wg Stop n (G (b.at a k) cs)):Lqn P main ty Wg Stop (n+1) (G (b.at a (.inRegion ops []::k)) cs):=dH rfl (λ_=>stepG_region_end) h
theorem cQ{id:Nat}{ops:Array Oper}(h:Lqn P main ty Wg Stop n (G (b.at a (.inRegion ops (List.range ops.size)::k)) cs)):Lqn P main ty Wg Stop (n+1) (G (b.at a (.code (.region id ops false)::k)) cs):=dH rfl (λ_=>stepG_region) h
theorem aI{c:Operand}{x y:Code}(hc:a.eval c=.bool true)(h:Lqn P main ty Wg Stop n (G (b.at a (.code x::k)) cs)):Lqn P main ty Wg Stop (n+1) (G (b.at a (.code (.cond c x y)::k)) cs):=dH rfl (λ_=>stepG_cond hc) h
theorem aC{c:Operand}{x y:Code}(hc:a.eval c=.bool false)(h:Lqn P main ty Wg Stop n (G (b.at a (.code y::k)) cs)):Lqn P main ty Wg Stop (n+1) (G (b.at a (.code (.cond c x y)::k)) cs):=dH rfl (λ_=>stepG_cond hc) h
theorem cV(h:Lqn P main ty Wg Stop n (G {b.at a (.code .ret::k) with mode:=.returning} cs)):Lqn P main ty Wg Stop (n+1) (G (b.at a (.code .ret::k)) cs):=dH rfl (λ_=>stepG_ret') h
theorem Qa(h:Lqn P main ty Wg Stop n (G {b.at a [] with mode:=.returning} cs)):Lqn P main ty Wg Stop (n+1) (G (b.at a []) cs):=dH rfl (λ_=>stepG_end) h
theorem bS{id:Nat}{c:Code}(h:Lqn P main ty Wg Stop n (G (b.at a (.code c::.inBlock id::k)) cs)):Lqn P main ty Wg Stop (n+1) (G (b.at a (.code (.block id c)::k)) cs):=dH rfl (λ_=>stepG_block) h
theorem cp{c:Code}(h:Lqn P main ty Wg Stop n (G (b.at a (.code c::.inLoop c::k)) cs)):Lqn P main ty Wg Stop (n+1) (G (b.at a (.code (.loop c)::k)) cs):=dH rfl (λ_=>stepG_loop) h
theorem br{c:Code}(h:Lqn P main ty Wg Stop n (G (b.at a (.code c::.inLoop c::k)) cs)):Lqn P main ty Wg Stop (n+1) (G (b.at a (.inLoop c::k)) cs):=dH rfl (λ_=>stepG_inLoop) h
theorem aY{id:Nat}(h:Lqn P main ty Wg Stop n (G (b.at a k) cs)):Lqn P main ty Wg Stop (n+1) (G (b.at a (.inBlock id::k)) cs):=dH rfl (λ_=>stepG_inBlock) h
theorem cS{ops:Array Oper}{i:Nat}{rest:List Nat}{o:Oper}(ho:ops[i]? = some o)(hw:Region.wanted o (yielded ops a.tmps)=false)(h:Lqn P main ty Wg Stop n (G (b.at (a.put o.dst undef) (.inRegion ops rest::k)) cs)) :
  Lqn P main ty Wg Stop (n+1) (G (b.at a (.inRegion ops (i::rest)::k)) cs):=dH rfl (λ_=>stepG_unwanted ho hw) h
end
section
variable {P:Program}{L:WgLink}{Wg:Nat}{b₀:Frame}{a₀:Act}{ops₀:Array Oper}{i₀:Nat}{rest₀:List Nat}{k₀:List Item}{cs:List Frame}
def Hn(b₀:Frame)(a₀:Act)(ops₀:Array Oper)(i₀:Nat)(rest₀:List Nat)(k₀:List Item)(cs:List Frame)(g:Goroutine):Prop:=g=G (b₀.at (a₀.put ((ops₀[i₀]?).bind (·.dst)) (.tuple #[])) (.inRegion ops₀ rest₀::k₀)) cs
end
theorem lO{P:Program} : ∀{n m d:Nat} {g:Goroutine},n<=m->QuitsD P n d g->QuitsD P m d g
 | 0,0,_,_,_,h=>h
 | 0,_+1,_,_,_,h=>.inl h
 | _+1,0,_,_,hn,_=>Uw hn (by omega)
 | _+1,_+1,_,_,hn,h=>h.imp id λ⟨h1,g',es,h2,h3,h4⟩=>⟨h1,g',es,h2,h3,lO (by omega) h4⟩
section
variable (P:Program)(ty:TypeId)(Wg:Nat)
def Tv(NQ NW:Goroutine->Prop)(g:Goroutine):Prop:=
 g.status=.running∧(∃g',(∀w,WgAt ty Wg w KK 0->stepG P false g w=.go g' (w.setCell (stA Wg) (.int .u64 0)) #[rd (stA Wg),wr (stA Wg)])∧NQ g') ∧
  ∃g',(∀w,WgAt ty Wg w (KK+1) 0->stepG P false g w=.go g' (w.setCell (stA Wg) (.int .u64 1)) #[rd (stA Wg),wr (stA Wg)])∧NW g'
def Tu(Nx:Goroutine->Prop)(g:Goroutine):Prop:=g.status=.running∧∃g',(∀w,WgAt ty Wg w 1 0->stepG P false g w=.go g' w #[rd (stA Wg)])∧Nx g'
def Ts(Nx:Goroutine->Prop)(g:Goroutine):Prop:=g.status=.running∧∃g',(∀w,WgAt ty Wg w 1 0->stepG P false g w=.go g' (w.setCell (stA Wg) (.int .u64 0)) #[wr (stA Wg)])∧Nx g'
def Tt(Nx:Goroutine->Prop)(g:Goroutine):Prop:=g.status=.running∧mayWake P g=true∧∃g',(∀w,WgAt ty Wg w 0 0->stepG P false g w=.go g' (w.setCell (smA Wg) (.int .u32 1)) (semEvents (smA Wg)))∧Nx g'
def Qt(g:Goroutine):Prop:=∃q,QuitsD P q 1 g
def Tq:Goroutine->Prop:=Lq P false ty Wg (Tt P ty Wg (Qt P))
def DSt:Goroutine->Prop:=Lq P false ty Wg (Ts P ty Wg (Tq P ty Wg))
def DLd:Goroutine->Prop:=Lq P false ty Wg (Tu P ty Wg (DSt P ty Wg))
def Ry:Goroutine->Prop:=Lq P false ty Wg (Tv P ty Wg (Qt P) (DLd P ty Wg))
def Lr:Goroutine->Prop:=Lq P false ty Wg (XI P false (.releaseMerge (stA Wg)) (Lq P false ty Wg (XI P false .disable (Ry P ty Wg))))
end
open Go.ConcR (stA smA)
def Ll(Sh:Nat->Prop)(t:Trace)(k:Nat)(a:Touch)(b:Nat):Prop:=a.kind=.atomic∧(∃ad,a.loc=.cell ad)∧Sh b∧∀g,t.g? k=some g->g≠0->t.counts k->∃j,t.g? j=some 0∧HappensBefore t k j
structure Xw (J Wg:Nat) (Sh:Nat->Prop) (KJ:Trace->Nat->Prop) (dm dw:Nat) (t:Trace):Prop where
 d0:Deaf t 0=dm
 dJ:Deaf t J=dw
 norel:∀(k:Nat) (a:Addr),t.act? k≠some (.mark (.release a))
 wg:∀k a,touchAt t k=some a->kl a.loc=some Wg->(a.kind=.plain->Knows t 0 k∧Knows t J k)∧(a.kind=.said->Knows t 0 k)
 all:∀k a,touchAt t k=some a->∀b,kl a.loc=some b->Knows t 0 k∨KJ t k∨Ll Sh t k a b
section
variable {J Wg:Nat}{Sh:Nat->Prop}{KJ KJ':Trace->Nat->Prop}{dm dw dm' dw':Nat}{t u:Trace}{n:Nat}{i:Nat}{fn:FuncId}{pos:String}{es:Array Event}{S R:Nat->Prop}
theorem Ll.app{k:Nat}{a:Touch}{b:Nat}(hk:k<t.size)(h:Ll Sh t k a b):Ll Sh (t++u) k a b:=by
 obtain⟨h1,h2,h3,h4⟩:=h;refine⟨h1,h2,h3,λg hg U2 hc=>?_⟩;obtain⟨j,hj,hb⟩:=h4 g (by simpa[Trace.g?,getElem?_append_old hk] using hg) U2 ((counts_old hk).1 hc);have hjl:j<t.size:=by unfold Trace.g? at hj;obtain⟨z,hz,_⟩:=Option.map_eq_some_iff.1 hj;exact lt_size_of_getElem? hz
 exact⟨j,by simpa[Trace.g?,getElem?_append_old hjl] using hj,hb_app u hb⟩
theorem Xw.app(h:Xw J Wg Sh KJ dm dw t)(h0:Deaf (t++u) 0=dm')(hJ:Deaf (t++u) J=dw')(hrel:∀op∈u,∀a:Addr,op.act≠.mark (.release a))
  (hwg:∀op∈u,∀x,op.act.touch? = some x->kl x.loc=some Wg->x.kind≠.plain∧(x.kind=.said->op.g=0)) (hKJ:∀k,KJ t k->KJ' (t++u) k)
  (Vb:∀(p:Nat) (op:MemOp),(t++u)[p]? = some op->t.size<=p->op∈u->∀x,op.act.touch? = some x->∀b,kl x.loc=some b->op.g=0∨KJ' (t++u) p∨Ll Sh (t++u) p x b):Xw J Wg Sh KJ' dm' dw' (t++u):=by
 refine⟨h0,hJ,mu h.norel hrel,λk a hk hb=>?_,λk a hk b hb=>?_⟩
 ·obtain⟨x,hx,XB⟩:=touch_of hk;rcases getElem?_append_cases hx with ⟨_,WJ⟩|⟨_,YB⟩
  obtain⟨q1,q2⟩:=h.wg k a (by rw[touchAt_of WJ];exact XB) hb;exact⟨λe=>⟨(q1 e).1.app u,(q1 e).2.app u⟩,λe=>(q2 e).app u⟩;obtain⟨q1,q2⟩:=hwg x YB a XB hb;exact⟨λe=>Uw e q1,λe=>by have:=knows_own hx;rwa [q2 e] at this⟩
 obtain⟨x,hx,XB⟩:=touch_of hk;rcases getElem?_append_cases hx with ⟨U8,WJ⟩|⟨ZE,YB⟩
 rcases h.all k a (by rw[touchAt_of WJ];exact XB) b hb with z|z|z;exact .inl (z.app u);exact .inr (.inl (hKJ k z));exact .inr (.inr (z.app U8));rcases Vb k x hx ZE YB a XB b hb with z|z|z;have:=knows_own hx;rw[z] at this;exact .inl this;exact .inr (.inl z);exact .inr (.inr z)
theorem Deaf_quiet{g:Nat}(hq:∀op∈u,∀d,deafStep g d op=d):Deaf (t++u) g=Deaf t g:=by
 have:=deaf_quiet (t:=t) (u:=u) (g:=g) hq u.size (I' _);unfold Deaf at this ⊢
 rwa [Array.size_append]
theorem JR{e:Event}(h:EvS S R n e):∀m,MemAct.ofEvent e≠.mark m∨m=.noRoom:=by
 obtain⟨loc,wr,sy⟩:=e;intro m;cases loc with
 | cell a=>exact .inl (by simp[MemAct.ofEvent])
 | obj r=>exact .inl (by cases wr<;>cases sy<;>simp[MemAct.ofEvent])
 | mark m'=>
  have h:m'=.noRoom:=h;subst h;by_cases e:m=.noRoom;exact .inr e;exact .inl (by simp[MemAct.ofEvent];exact λx=>e x.symm)
 | output=>exact h.elim
 | goroutines=>exact h.elim
theorem zB{e:Event}(h:EvS S R n e)(g d k:Nat):deafStep g d {g:=k,fn,pos,act:=.ofEvent e} = d:=by
 unfold deafStep;have hw:=JR h;cases ha:MemAct.ofEvent e with
 | mark m=>
  cases m<;>first|rfl|(rcases hw _ with x|x<;>first|(exact Uw ha x)|(cases x))
 | _=>rfl
theorem Xw.own(h:Xw J Wg Sh KJ dm dw t)(hS:S Wg)(he:∀e∈es,EvS S R n e)(hKJ:∀(u:Trace) k,KJ t k->KJ (t++u) k)(hi:i=0∨∀(u:Trace) (p:Nat) (y:MemOp),(t++u)[p]? = some y->y.g=i->(∀(x:Touch) (b:Nat),y.act.touch? = some x->kl x.loc=some b->¬S b)->KJ (t++u) p):Xw J Wg Sh KJ dm dw (t++MemOp.ofEvents i fn pos es):=by refine h.app ((Deaf_quiet λop U5 d=>?_).trans h.d0) ((Deaf_quiet λop U5 d=>?_).trans h.dJ) (λop U5=>?_) (λop U5 x hx hb=>?_) (λk z=>hKJ _ k z) λp op hp _ U5 x hx b hb=>?_;obtain⟨e,Xn,rfl⟩:=Go.Conc.mem_ofEvents U5;exact zB (he e Xn) _ _ _;obtain⟨e,Xn,rfl⟩:=Go.Conc.mem_ofEvents U5;exact zB (he e Xn) _ _ _;obtain⟨e,Xn,rfl⟩:=Go.Conc.mem_ofEvents U5;exact vk (he e Xn);obtain⟨e,Xn,rfl⟩:=Go.Conc.mem_ofEvents U5;exact Uw hS (mI (he e Xn) hx hb).1;obtain⟨e,Xn,rfl⟩:=Go.Conc.mem_ofEvents U5;rcases hi with rfl|hi;exact .inl rfl;exact .inr (.inl (hi _ p _ hp rfl λx b hx hb=>(mI (he e Xn) hx hb).1))
theorem Xw.mute(h:Xw J Wg Sh KJ dm dw t)(Xp:i≠0)(hiJ:i≠J)(he:∀e∈es,Event.mute e=true)(hKJ:∀(u:Trace) k,KJ t k->KJ (t++u) k):Xw J Wg Sh KJ dm dw (t++MemOp.ofEvents i fn pos es):=by
 have hg:∀op∈MemOp.ofEvents i fn pos es,op.g=i:=λop U5=>by obtain⟨e,_,rfl⟩:=Go.Conc.mem_ofEvents U5;rfl
 refine h.app ((Deaf_other t Xp _ hg).trans h.d0) ((Deaf_other t hiJ _ hg).trans h.dJ) (λop U5=>?_) (λop U5 x hx hb=>?_) (λk z=>hKJ _ k z) λp op hp _ U5 x hx b hb=>?_;obtain⟨e,Xn,rfl⟩:=Go.Conc.mem_ofEvents U5;exact sJ (he e Xn);obtain⟨e,Xn,rfl⟩:=Go.Conc.mem_ofEvents U5;rw[touch_mute (he e Xn)] at hx;cases hx;obtain⟨e,Xn,rfl⟩:=Go.Conc.mem_ofEvents U5;rw[touch_mute (he e Xn)] at hx;cases hx
end
end Go.Proofs.YtgigkennhdolpaaGreatDoor
