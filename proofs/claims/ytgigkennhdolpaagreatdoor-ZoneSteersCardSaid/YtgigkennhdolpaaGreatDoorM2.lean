/- Company, 1: what a goroutine does in a world in which foreign blocks are struck out, it does in the world as it is, and touches none of them. -/
import Derived.Conc.Own
import Derived.Conc.Listed
namespace Go.Proofs.YtgigkennhdolpaaGreatDoor
open Go.Conc
def Dead{α:Type}(m:Sem α):Prop:=∀(P:Program)(w:World),∀r w',m.run P w≠.ok r w'
def Obj.plain:Obj→Prop
 | .view ..=>False
 | _=>True
def NS(P:Program){α:Type} : Sem α→Prop
 | .pure _=>True
 | .load _ _ k=>∀v,NS P (k v)
 | .store _ _ _ k=>NS P k
 | .new o k=>Obj.plain o∧∀r,NS P (k r)
 | .shape _ k=>∀s,Dead (k s)
 | .freeze _ _ k=>Dead k
 | .frozen _ k=>∀b,Dead (k b)
 | .getObj _ k=>∀o,NS P (k o)
 | .setObj _ o k=>Obj.plain o∧NS P k
 | .choose _ k=>∀n,NS P (k n)
 | .sys _ k=>∀r,Dead (k r)
 | .program k=>NS P (k P)
 | .mark m k=>m=.noRoom∧NS P k
 | .halt _=>True
theorem Dead.bind{α β:Type}{m:Sem α}(h:Dead m)(f:α→Sem β):Dead (m.bind f):=fun P w r w' e=>by
 have:∀{m:Sem α} {w:World} {r:β} {w':World},(m.bind f).run P w=.ok r w'→∃x w1,m.run P w=.ok x w1:=by
  intro m
  induction m with
  | pure a=>exact fun _=>⟨_,_,rfl⟩
  | load md a k ih=>
   intro w r w' e
   simp only[Sem.bind,Sem.run] at e ⊢
   split at e
   ·exact ih _ e
   ·split at e
    ·exact ih _ e
    ·cases e
  | store md a v k ih=>
   intro w r w' e
   cases v with
   | agg vs=>simp only[Sem.bind,Sem.run] at e;cases e
   | tuple vs=>simp only[Sem.bind,Sem.run] at e;cases e
   | _=>
    simp only[Sem.bind,Sem.run] at e ⊢
    split at e
    ·split at e
     ·cases e
     ·rename_i hf
      rw[if_neg hf]
      exact ih e
    ·split at e
     ·exact ih e
     ·cases e
  | new o k ih=>intro w r w' e;exact ih _ e
  | shape r k ih=>intro w r w' e;exact ih _ e
  | freeze a n k ih=>intro w r w' e;exact ih e
  | frozen a k ih=>intro w r w' e;exact ih _ e
  | getObj r k ih=>
   intro w r w' e
   simp only[Sem.bind,Sem.run] at e ⊢
   split at e<;>first|cases e|skip
   exact ih _ e
  | setObj r o k ih=>
   intro w r w' e
   simp only[Sem.bind,Sem.run] at e ⊢
   split at e<;>first|cases e|skip
   exact ih e
  | choose q k ih=>
   intro w r w' e
   simp only[Sem.bind,Sem.run] at e ⊢
   split at e
   ·rename_i hq;rw[if_pos hq];exact ih _ e
   ·rename_i hq;rw[if_neg hq];exact ih _ e
  | sys c k ih=>intro w r w' e;exact ih _ e
  | program k ih=>intro w r w' e;exact ih _ e
  | mark m k ih=>intro w r w' e;exact ih e
  | halt h=>intro w r w' e;cases e
 obtain⟨x,w1,e1⟩:=this e
 exact h P w x w1 e1
theorem NS.bind{P:Program}{α β:Type} : ∀{m:Sem α}{f:α→Sem β},NS P m→(∀a,NS P (f a))→NS P (m.bind f):=by
 intro m
 induction m with
 | pure a=>exact fun _ h=>h a
 | load md a k ih=>exact fun h hf v=>ih v (h v) hf
 | store md a v k ih=>exact fun h hf=>ih h hf
 | new o k ih=>exact fun h hf=>⟨h.1,fun r=>ih r (h.2 r) hf⟩
 | shape r k ih=>exact fun h _ s=>(h s).bind _
 | freeze a n k ih=>exact fun h _=>Dead.bind h _
 | frozen a k ih=>exact fun h _ b=>(h b).bind _
 | getObj r k ih=>exact fun h hf o=>ih o (h o) hf
 | setObj r o k ih=>exact fun h hf=>⟨h.1,ih h.2 hf⟩
 | choose q k ih=>exact fun h hf n=>ih n (h n) hf
 | sys c k ih=>exact fun h _ r=>(h r).bind _
 | program k ih=>exact fun h hf=>ih P h hf
 | mark m k ih=>exact fun h hf=>⟨h.1,ih h.2 hf⟩
 | halt h=>exact fun _ _=>trivial
def Lent(o O:Option Obj):Prop:=∃cs t fr hi,o=some (.cells cs t fr)∧O=some (.cells cs t (0,hi))∧cs.size≤hi
structure View (S R:Nat→Prop) (w W:World):Prop where
 tape:w.tape=W.tape
 drawn:w.drawn=W.drawn
 os:w.os=W.os
 output:w.output=W.output
 size:w.heap.size=W.heap.size
 same:∀b:Nat,¬S b→¬R b→w.heap[b]? = W.heap[b]?
 lent:∀b:Nat,¬S b→R b→Lent (w.heap[b]?) (W.heap[b]?)
 pois:∀b:Nat,S b→W.heap[b]? = some (.cells #[] 0 (0,0))
 plain:∀(b:Nat) (o:Obj),W.heap[b]? = some o→Obj.plain o
def EvS(S R:Nat→Prop)(n:Nat)(e:Event):Prop:=match e.loc with
 | .cell a=>¬S a.block∧a.block<n∧(e.write=true→¬R a.block)
 | .obj r=>¬S r∧r<n∧¬R r
 | .mark m=>m=.noRoom
 | _=>False
structure dS (S R:Nat→Prop) (w w':World):Prop where
 size:w.heap.size≤w'.heap.size
 same:∀b:Nat,S b∨R b→w'.heap[b]? = w.heap[b]?
 os:w'.os=w.os
 tape:w'.tape=w.tape
 output:w'.output=w.output
theorem dS.refl(S R:Nat→Prop)(w:World):dS S R w w:=⟨Nat.le_refl _,fun _ _=>rfl,rfl,rfl,rfl⟩
theorem dS.trans{S R:Nat→Prop}{a b c:World}(h:dS S R a b)(k:dS S R b c):dS S R a c:=⟨Nat.le_trans h.size k.size,fun x hx=>(k.same x hx).trans (h.same x hx),k.os.trans h.os,k.tape.trans h.tape,k.output.trans h.output⟩
section
variable {P:Program}{S R:Nat→Prop}{w W:World}
theorem View.far(h:View S R w W){a:Addr}{at_:Bool} : ∃x,W.farLoad P a at_=.error x:=by
 unfold World.farLoad
 split
 ·rename_i b u hb
  exact(h.plain _ _ hb).elim
 ·exact⟨_,rfl⟩
theorem View.farS(h:View S R w W){a:Addr}{v:Value}{at_:Bool} : ∃x,W.farStore P a v at_=.error x:=by
 unfold World.farStore
 split
 ·rename_i b u hb
  exact(h.plain _ _ hb).elim
 ·exact⟨_,rfl⟩
theorem View.cell(h:View S R w W){a:Addr}{v:Value}(hc:W.cell? a=some v):¬S a.block∧w.cell? a=some v:=by
 have hs:¬S a.block:=fun hs=>by
  have:=h.pois _ hs
  unfold World.cell? at hc
  rw[this] at hc
  simp at hc
 refine⟨hs,?_⟩
 by_cases hr:R a.block
 ·obtain⟨cs,t,fr,hi,h1,h2,h3⟩:=h.lent _ hs hr
  unfold World.cell? at hc ⊢
  rw[h2] at hc
  rw[h1]
  exact hc
 ·unfold World.cell? at hc ⊢
  rw[h.same _ hs hr]
  exact hc
theorem View.thaw(h:View S R w W){a:Addr}{v:Value}(hc:W.cell? a=some v)(hf:¬W.frozen? a=true):¬R a.block:=fun hr=>by
 obtain⟨hs,_⟩:=h.cell hc
 obtain⟨cs,t,fr,hi,h1,h2,h3⟩:=h.lent _ hs hr
 unfold World.cell? at hc
 unfold World.frozen? at hf
 rw[h2] at hc hf
 simp only at hc hf
 split at hc
 ·cases hc
 ·have:=(Array.getElem?_eq_some_iff.1 hc).1
  refine hf ?_
  have h4:a.off<hi:=by omega
  simp[h4]
theorem View.frozen(h:View S R w W){a:Addr}(hs:¬S a.block)(hr:¬R a.block):w.frozen? a=W.frozen? a:=by
 unfold World.frozen?
 rw[h.same _ hs hr]
theorem View.mod(h:View S R w W){b0:Nat}(hs:¬S b0)(hr:¬R b0){f:Obj→Obj}(hf:∀o,Obj.plain o→Obj.plain (f o)):View S R {w with heap:=w.heap.modify b0 f} {W with heap:=W.heap.modify b0 f}:=by
 refine⟨h.tape,h.drawn,h.os,h.output,by simpa using h.size,fun b hb hb'=>?_,fun b hb hb'=>?_,fun b hb=>?_,fun b o ho=>?_⟩
 ·simp only[Array.getElem?_modify]
  rw[h.same b hb hb']
 ·have:b0≠b:=fun e=>hr (e▸hb')
  simp only[Array.getElem?_modify,if_neg this]
  exact h.lent b hb hb'
 ·have:b0≠b:=fun e=>hs (e▸hb)
  simp only[Array.getElem?_modify,if_neg this]
  exact h.pois b hb
 ·simp only[Array.getElem?_modify] at ho
  split at ho
  ·cases e:W.heap[b]? with
   | none=>rw[e] at ho;cases ho
   | some o'=>
    rw[e] at ho
    obtain rfl:=Option.some.inj ho
    exact hf _ (h.plain b o' e)
  ·exact h.plain b o ho
theorem dS.mod{b0:Nat}(hs:¬S b0)(hr:¬R b0){f:Obj→Obj} : dS S R w {w with heap:=w.heap.modify b0 f}:=by
 refine⟨by simp,fun b hb=>?_,rfl,rfl,rfl⟩
 have:b0≠b:=fun e=>hb.elim (fun x=>hs (e▸x)) fun x=>hr (e▸x)
 simp only[Array.getElem?_modify,if_neg this]
theorem dS.set{a:Addr}{v:Value}(hs:¬S a.block)(hr:¬R a.block):dS S R w (w.setCell a v):=dS.mod hs hr
theorem View.low(h:View S R w W){b:Nat}(hb:S b∨R b):b<W.heap.size:=by
 by_cases hs:S b
 ·exact(Array.getElem?_eq_some_iff.1 (h.pois b hs)).1
 ·rcases hb with hb|hb
  ·exact(hs hb).elim
  ·obtain⟨cs,t,fr,hi,h1,h2,h3⟩:=h.lent b hs hb
   exact(Array.getElem?_eq_some_iff.1 h2).1
theorem dS.push(h:View S R w W){o:Obj} : dS S R w {w with heap:=w.heap.push o}:=by
 refine⟨by simp,fun b hb=>?_,rfl,rfl,rfl⟩
 have h2:b<W.heap.size:=h.low hb
 have:b≠w.heap.size:=by rw[h.size];omega
 simp only[Array.getElem?_push,if_neg this]
theorem dS.setO{r:Nat}{o:Obj}(hs:¬S r)(hr:¬R r):dS S R w {w with heap:=w.heap.setIfInBounds r o}:=by
 refine⟨by simp,fun b hb=>?_,rfl,rfl,rfl⟩
 have:r≠b:=fun e=>hb.elim (fun x=>hs (e▸x)) fun x=>hr (e▸x)
 simp only[Array.getElem?_setIfInBounds,if_neg this]
theorem cell_low{w:World}{a:Addr}{v:Value}(h:w.cell? a=some v):a.block<w.heap.size:=by
 unfold World.cell? at h
 cases hb:w.heap[a.block]? with
 | none=>rw[hb] at h;cases h
 | some o=>exact(Array.getElem?_eq_some_iff.1 hb).1
theorem View.set(h:View S R w W){a:Addr}{v:Value}(hs:¬S a.block)(hr:¬R a.block):View S R (w.setCell a v) (W.setCell a v):=by
 refine h.mod hs hr fun o ho=>?_
 cases o<;>exact ho
theorem View.push(h:View S R w W){o:Obj}(ho:Obj.plain o):View S R {w with heap:=w.heap.push o} {W with heap:=W.heap.push o}:=by
 refine⟨h.tape,h.drawn,h.os,h.output,by simpa using h.size,fun b hb hb'=>?_,fun b hb hb'=>?_,fun b hb=>?_,fun b o' ho'=>?_⟩
 ·simp only[Array.getElem?_push,h.size]
  rw[h.same b hb hb']
 ·have h2:b<W.heap.size:=h.low (.inr hb')
  simp only[Array.getElem?_push,h.size,if_neg (Nat.ne_of_lt h2)]
  exact h.lent b hb hb'
 ·have h1:=h.pois b hb
  have:b<W.heap.size:=(Array.getElem?_eq_some_iff.1 h1).1
  simp only[Array.getElem?_push,if_neg (Nat.ne_of_lt this)]
  exact h1
 ·simp only[Array.getElem?_push] at ho'
  split at ho'
  ·obtain rfl:=Option.some.inj ho';exact ho
  ·exact h.plain b o' ho'
theorem View.setO(h:View S R w W){r:Nat}{o:Obj}(hs:¬S r)(hr:¬R r)(ho:Obj.plain o):View S R {w with heap:=w.heap.setIfInBounds r o} {W with heap:=W.heap.setIfInBounds r o}:=by
 refine⟨h.tape,h.drawn,h.os,h.output,by simpa using h.size,fun b hb hb'=>?_,fun b hb hb'=>?_,fun b hb=>?_,fun b o' ho'=>?_⟩
 ·simp only[Array.getElem?_setIfInBounds,h.size]
  rw[h.same b hb hb']
 ·have:r≠b:=fun e=>hr (e▸hb')
  simp only[Array.getElem?_setIfInBounds,if_neg this]
  exact h.lent b hb hb'
 ·have:r≠b:=fun e=>hs (e▸hb)
  simp only[Array.getElem?_setIfInBounds,if_neg this]
  exact h.pois b hb
 ·simp only[Array.getElem?_setIfInBounds] at ho'
  split at ho'
  ·split at ho'
   ·obtain rfl:=Option.some.inj ho';exact ho
   ·cases ho'
  ·exact h.plain b o' ho'
theorem View.draw(h:View S R w W):View S R {w with drawn:=w.drawn+1} {W with drawn:=W.drawn+1}:=
 ⟨h.tape,by show w.drawn+1=W.drawn+1;rw[h.drawn],h.os,h.output,h.size,h.same,h.lent,h.pois,h.plain⟩
end
theorem eh{P:Program}{S R:Nat→Prop}{α:Type} : ∀{m:Sem α}{w W W':World}{r:α}(es:Array Event),NS P m→View S R w W→m.run P W=.ok r W'→
  ∃w',m.run P w=.ok r w'∧View S R w' W'∧dS S R w w'∧∀e∈m.events P w es,e∈es∨EvS S R w'.heap.size e:=by
 intro m
 induction m with
 | pure a=>
  intro w W W' r es _ h e
  obtain⟨rfl,rfl⟩:=by simpa[Sem.run] using e
  exact⟨w,rfl,h,dS.refl _ _ _,fun e he=>.inl he⟩
 | load md a k ih=>
  intro w W W' r es hn h e
  simp only[Sem.run] at e
  split at e
  ·rename_i v hc
   obtain⟨h1,h2⟩:=h.cell hc
   obtain⟨w',k1,k2,kk,k3⟩:=ih v (es.push ⟨.cell a,false,md==.atomic⟩) (hn v) h e
   refine⟨w',by simp only[Sem.run,h2];exact k1,k2,kk,fun e he=>?_⟩
   have he:e∈(k v).events P w (es.push ⟨.cell a,false,md==.atomic⟩):=by
    have:(Sem.load md a k).events P w es=(k v).events P w (es.push ⟨.cell a,false,md==.atomic⟩):=by simp only[Sem.events,Sem.runT,h2]
    rwa [this] at he
   rcases k3 e he with q|q
   ·rcases Array.mem_push.1 q with q|rfl
    ·exact .inl q
    ·exact .inr ⟨h1,Nat.lt_of_lt_of_le (cell_low h2) kk.size,fun x=>by cases x⟩
   ·exact .inr q
  ·obtain⟨x,hx⟩:=h.far (P:=P) (a:=a) (at_:=md==.atomic)
   rw[hx] at e
   cases e
 | store md a v k ih=>
  intro w W W' r es hn h e
  cases v with
  | agg vs=>simp only[Sem.run] at e;cases e
  | tuple vs=>simp only[Sem.run] at e;cases e
  | _=>
   simp only[Sem.run] at e
   split at e
   ·rename_i v0 hc
    obtain⟨h1,h2⟩:=h.cell hc
    split at e
    ·cases e
    ·rename_i hf
     have hr:=h.thaw hc hf
     have hf':¬w.frozen? a=true:=by rw[h.frozen h1 hr];exact hf
     obtain⟨w',k1,k2,kk,k3⟩:=ih (es.push ⟨.cell a,true,md==.atomic⟩) hn (h.set h1 hr) e
     refine⟨w',by simp only[Sem.run,h2];rw[if_neg hf'];exact k1,k2,(dS.set h1 hr).trans kk,fun e he=>?_⟩
     simp only[Sem.events,Sem.runT,h2] at he
     rw[if_neg hf'] at he
     rcases k3 e he with q|q
     ·rcases Array.mem_push.1 q with q|rfl
      ·exact .inl q
      ·exact .inr ⟨h1,Nat.lt_of_lt_of_le (cell_low h2) ((dS.set h1 hr).trans kk).size,fun _=>hr⟩
     ·exact .inr q
   ·obtain⟨x,hx⟩:=h.farS (P:=P) (a:=a) (at_:=md==.atomic)
    rw[hx] at e
    cases e
 | new o k ih=>
  intro w W W' r es hn h e
  simp only[Sem.run] at e
  obtain⟨w',k1,k2,kk,k3⟩:=ih W.heap.size es (hn.2 _) (h.push hn.1) e
  refine⟨w',by simp only[Sem.run];rw[h.size];exact k1,k2,(dS.push h).trans kk,fun e he=>?_⟩
  simp only[Sem.events,Sem.runT] at he
  rw[h.size] at he
  exact k3 e he
 | shape r k ih=>exact fun es hn h e=>absurd e (hn _ _ _ _ _)
 | freeze a n k ih=>exact fun es hn h e=>absurd e (hn _ _ _ _)
 | frozen a k ih=>exact fun es hn h e=>absurd e (hn _ _ _ _ _)
 | getObj rr k ih=>
  intro w W W' r es hn h e
  simp only[Sem.run] at e
  split at e
  ·cases e
  ·rename_i o hno ho
   have hs:¬S rr:=fun hs=>by
    have:=h.pois _ hs
    rw[ho] at this
    exact hno _ _ _ (Option.some.inj this)
   have hr:¬R rr:=fun hr=>by
    obtain⟨cs,t,fr,hi,q1,q2,q3⟩:=h.lent _ hs hr
    rw[ho] at q2
    exact hno _ _ _ (Option.some.inj q2)
   have ho':w.heap[rr]? = some o:=(h.same _ hs hr).trans ho
   obtain⟨w',k1,k2,kk,k3⟩:=ih o (es.push ⟨.obj rr,false,o.isChan⟩) (hn o) h e
   have e1:(Sem.getObj rr k).run P w=(k o).run P w:=by
    simp only[Sem.run,ho']
   have e2:(Sem.getObj rr k).events P w es=(k o).events P w (es.push ⟨.obj rr,false,o.isChan⟩):=by
    simp only[Sem.events,Sem.runT,ho']
   refine⟨w',e1.trans k1,k2,kk,fun e he=>?_⟩
   rw[e2] at he
   rcases k3 e he with q|q
   ·rcases Array.mem_push.1 q with q|rfl
    ·exact .inl q
    ·exact .inr ⟨hs,Nat.lt_of_lt_of_le (Array.getElem?_eq_some_iff.1 ho').1 kk.size,hr⟩
   ·exact .inr q
  ·cases e
 | setObj rr o k ih=>
  intro w W W' r es hn h e
  simp only[Sem.run] at e
  split at e
  ·cases e
  ·rename_i o0 hno ho
   have hs:¬S rr:=fun hs=>by
    have:=h.pois _ hs
    rw[ho] at this
    exact hno _ _ _ (Option.some.inj this)
   have hr:¬R rr:=fun hr=>by
    obtain⟨cs,t,fr,hi,q1,q2,q3⟩:=h.lent _ hs hr
    rw[ho] at q2
    exact hno _ _ _ (Option.some.inj q2)
   have ho':w.heap[rr]? = some o0:=(h.same _ hs hr).trans ho
   obtain⟨w',k1,k2,kk,k3⟩:=ih (es.push ⟨.obj rr,true,o.isChan⟩) hn.2 (h.setO hs hr hn.1) e
   have e1:(Sem.setObj rr o k).run P w=k.run P {w with heap:=w.heap.setIfInBounds rr o}:=by
    simp only[Sem.run,ho']
   have e2:(Sem.setObj rr o k).events P w es=k.events P {w with heap:=w.heap.setIfInBounds rr o} (es.push ⟨.obj rr,true,o.isChan⟩):=by
    simp only[Sem.events,Sem.runT,ho']
   refine⟨w',e1.trans k1,k2,(dS.setO hs hr).trans kk,fun e he=>?_⟩
   rw[e2] at he
   rcases k3 e he with q|q
   ·rcases Array.mem_push.1 q with q|rfl
    ·exact .inl q
    ·exact .inr ⟨hs,Nat.lt_of_lt_of_le (Array.getElem?_eq_some_iff.1 ho').1 ((dS.setO hs hr).trans kk).size,hr⟩
   ·exact .inr q
  ·cases e
 | choose q k ih=>
  intro w W W' r es hn h e
  simp only[Sem.run] at e
  by_cases hq:q.forced=true
  ·rw[if_pos hq] at e
   obtain⟨w',k1,k2,kk,k3⟩:=ih 0 es (hn 0) h e
   refine⟨w',by simp only[Sem.run];rw[if_pos hq];exact k1,k2,kk,fun e he=>?_⟩
   simp only[Sem.events,Sem.runT] at he
   rw[if_pos hq] at he
   exact k3 e he
  ·rw[if_neg hq,←h.tape,←h.drawn] at e
   obtain⟨w',k1,k2,kk,k3⟩:=ih _ es (hn _) (by have:=h.draw;rwa [←h.drawn,←h.tape] at this) e
   refine⟨w',by simp only[Sem.run];rw[if_neg hq];exact k1,k2,⟨kk.size,kk.same,kk.os,kk.tape,kk.output⟩,fun e he=>?_⟩
   simp only[Sem.events,Sem.runT] at he
   rw[if_neg hq] at he
   exact k3 e he
 | sys c k ih=>exact fun es hn h e=>absurd e (hn _ _ _ _ _)
 | program k ih=>
  intro w W W' r es hn h e
  obtain⟨w',k1,k2,kk,k3⟩:=ih P es hn h e
  exact⟨w',k1,k2,kk,k3⟩
 | mark mm k ih=>
  intro w W W' r es hn h e
  obtain⟨w',k1,k2,kk,k3⟩:=ih (es.push ⟨.mark mm,false,true⟩) hn.2 h e
  refine⟨w',k1,k2,kk,fun e he=>?_⟩
  rcases k3 e he with q|q
  ·rcases Array.mem_push.1 q with q|rfl
   ·exact .inl q
   ·exact .inr hn.1
  ·exact .inr q
 | halt hh=>
  intro w W W' r es _ _ e
  cases e
end Go.Proofs.YtgigkennhdolpaaGreatDoor
