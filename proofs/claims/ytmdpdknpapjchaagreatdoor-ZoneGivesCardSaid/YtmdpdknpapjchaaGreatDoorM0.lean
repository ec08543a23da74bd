/- Company, 1: what a goroutine does in a. -/
import Derived.Orders
import Derived.Conc.Beside
set_option linter.all false
namespace Go.Proofs.YtmdpdknpapjchaaGreatDoor
open Go.Conc
variable {K:Act->World->Prop}{a:Addr}{ops:Array Oper}{args:Array Value}{at_ co:Bool}{YI body:Code}{f:FuncId}{g:Goroutine}{rest:List Nat}{b0 i l m n:Nat}{S:Nat->Prop}{o:Oper}{P:Program}{p:Prop}{α β:Type}{v:Value}{W1 w w':World}
theorem B'(n:Nat):0+n=n:=Nat.zero_add n
theorem E'.{u} {α:Type u}{i:Nat}{b:α}{xs:Array α}:xs[i]? = some b↔∃h,xs[i]=b:=Array.getElem?_eq_some_iff
theorem F1(n:Nat):¬n<0:=Nat.not_lt_zero n
theorem F2(n:Nat):n≤n:=Nat.le_refl n
theorem F3.{u} {α:Type u}{i:Nat}{a:α}{l:List α}:l[i]? = some a↔∃h,l[i]=a:=List.getElem?_eq_some_iff
theorem F4(h:Nat.ble n m=true):n≤m:=Nat.le_of_ble_eq_true h
theorem F5.{u} {α:Type u}{a b:List α}{i:Nat}(h:i<a.length):(a++b)[i]? = a[i]?:=List.getElem?_append_left h
theorem F6.{u} {α:Type u}{a b:List α}{i:Nat}(h:a.length≤i):(a++b)[i]? = b[i-a.length]?:=List.getElem?_append_right h
theorem F7.{u,v} {α:Type u}{β:Type v}{a c:α}{b d:β}(h:(a,b)=(c,d)):a=c∧b=d:=Prod.mk.inj h
theorem F8.{u} {α:Sort u}{p:α→Prop}(w:α)(h:p w):Exists p:=Exists.intro w h
theorem F9(n:Nat):0≤n:=Nat.zero_le n
theorem F'.{u} {α:Type u}{xs:Array α}{i:Nat}(h:i<xs.size):xs[i]? = some xs[i]:=Array.getElem?_eq_getElem h
theorem I'(a b:Bool):((a&&b)=true)=(a=true∧b=true):=Bool.and_eq_true a b
theorem J'.{u} {α:Type u}{a:α}{l:List α}:a∈a::l:=List.mem_cons_self
theorem M'.{u} {α:Type u}{xs:Array α}{i j:Nat}(h:i≠j){a:α}:(xs.setIfInBounds i a)[j]? = xs[j]?:=Array.getElem?_setIfInBounds_ne h
theorem O'.{u,v} {α:Sort u}{β:Sort v}{a b:α}(f:α→β)(h:a=b):f a=f b:=congrArg f h
theorem P'{a b:Prop}(h:a)(k:¬a):b:=absurd h k
theorem U'[Decidable p]:(decide p=true)=p:=decide_eq_true_eq
theorem Xg[i:Decidable p](h:decide p=false):¬p:=of_decide_eq_false h
theorem Xh{_:Decidable p}:decide p=false↔¬p:=decide_eq_false_iff_not
theorem Xi[Decidable p](h:¬p):decide p=false:=decide_eq_false h
theorem Xj[i:Decidable p](h:p):decide p=true:=decide_eq_true h
theorem Xk.{u} {c:Prop}{h:Decidable c}(k:¬c){α:Sort u}{t e:α}:(if c then t else e)=e:=if_neg k
theorem Xl.{u} {c:Prop}{h:Decidable c}(k:c){α:Sort u}{t e:α}:(if c then t else e)=t:=if_pos k
theorem Xm.{u} {α:Type u}(y:α){a:α}{l:List α}(h:a∈l):a∈y::l:=List.mem_cons_of_mem y h
theorem Xn.{u} {α:Type u}{l:List α}{i j:Nat}(h:i<j):(l.take j)[i]? = l[i]?:=List.getElem?_take_of_lt h
theorem Xo(k:Nat)(h:n≤m):n*k≤m*k:=Nat.mul_le_mul_right k h
theorem Xp{x y:Bool}:(x||y)=false↔x=false∧y=false:=Bool.or_eq_false_iff
theorem Xq.{u} {α:Type u}{b:α}{l:List α}{a:α}:a∈b::l↔a=b∨a∈l:=List.mem_cons
theorem Xr.{u} {α:Type u}{a:α}{s t:List α}:a∈s++t↔a∈s∨a∈t:=List.mem_append
theorem Xs(h:n≤m):n=m∨n<m:=Nat.eq_or_lt_of_le h
theorem Xt.{u} {α:Type u}{l:List α}{i:Nat}(h:i<l.length):l[i]? = some l[i]:=List.getElem?_eq_getElem h
theorem Xu.{u} {α:Type u}{l:List α}{i:Nat}{a:α}(e:l[i]? = some a):a∈l:=List.mem_of_getElem? e
theorem Xv(a:Nat):Nat.beq a a=true:=Nat.beq_refl a
theorem Xx(a:α)(w:World)(f:α→World→Result β):Result.andThen (Result.ok a w) f=f a w:=Result.andThen_ok a w f
theorem Xy(P:Program)(w:World)(a:α):Sem.run P (pure a) w=Result.ok a w:=Sem.run_pure P w a
theorem Xz(P:Program)(w:World)(x:Sem α)(f:α→Sem β):Sem.run P (x>>=f) w=Result.andThen (Sem.run P x w) fun a w'=>Sem.run P (f a) w':=Sem.run_bind P w x f
theorem XA.{u} {α:Sort u}{a b c:α}(h:a=b)(k:b=c):a=c:=Eq.trans h k
theorem Oi.{u} {α : Type u} {a b : α} (h : some a = some b) : a = b := Option.some.inj h
theorem Ai {a b : Prop} (h : a) (k : b) : a ∧ b := And.intro h k
theorem Nb {a b : Nat} (h : Nat.beq a b = true) : a = b := Nat.eq_of_beq_eq_true h
theorem Od [Decidable p](h : decide p = true) : p := of_decide_eq_true h
def rZ(m:Sem α):Prop:=∀(P:Program) (w:World),∀r w',m.run P w≠.ok r w'
def Obj.plain:Obj->Prop
 | .view ..=>False
 | _=>True
def NS(P:Program){α:Type} : Sem α->Prop
 | .pure _=>True
 | .load _ _ k=>∀v,NS P (k v)
 | .store _ _ _ k=>NS P k
 | .new o k=>Obj.plain o∧∀r,NS P (k r)
 | .shape _ k=>∀s,rZ (k s)
 | .freeze _ _ k=>rZ k
 | .frozen _ k=>∀b,rZ (k b)
 | .getObj _ k=>∀o,NS P (k o)
 | .setObj _ o k=>Obj.plain o∧NS P k
 | .choose _ k=>∀n,NS P (k n)
 | .sys _ k=>∀r,rZ (k r)
 | .program k=>NS P (k P)
 | .mark m k=>m=.noRoom∧NS P k
 | .halt _=>True
theorem rZ.bind{α β:Type}{m:Sem α}(h:rZ m)(f:α->Sem β):rZ (m.bind f):=λP w r w' e=>by
 have:∀{m:Sem α} {w:World} {r:β} {w':World},(m.bind f).run P w=.ok r w'->∃x w1,m.run P w=.ok x w1:=by
  intro m
  induction m with
  | pure a=>exact λ_=>⟨_,_,rfl⟩
  | load md a k ih=>
   intro w r w' e;simp only[Sem.bind,Sem.run] at e ⊢;split at e;exact ih _ e;split at e;exact ih _ e;cases e
  | store md a v k ih=>
   intro w r w' e;cases v with
   | agg vs=>simp only[Sem.bind,Sem.run] at e;cases e
   | tuple vs=>simp only[Sem.bind,Sem.run] at e;cases e
   | _=>
    simp only[Sem.bind,Sem.run] at e ⊢;split at e;split at e;cases e;rename_i hf;rw[if_neg hf];exact ih e;split at e;exact ih e;cases e
  | new o k ih=>intro w r w' e;exact ih _ e
  | shape r k ih=>intro w r w' e;exact ih _ e
  | freeze a n k ih=>intro w r w' e;exact ih e
  | frozen a k ih=>intro w r w' e;exact ih _ e
  | getObj r k ih=>
   intro w r w' e;simp only[Sem.bind,Sem.run] at e ⊢;split at e<;>first|cases e|skip
   exact ih _ e
  | setObj r o k ih=>
   intro w r w' e;simp only[Sem.bind,Sem.run] at e ⊢;split at e<;>first|cases e|skip
   exact ih e
  | choose q k ih=>
   intro w r w' e;simp only[Sem.bind,Sem.run] at e ⊢;split at e;rename_i hq;rw[if_pos hq];exact ih _ e;rename_i hq;rw[if_neg hq];exact ih _ e
  | sys c k ih=>intro w r w' e;exact ih _ e
  | program k ih=>intro w r w' e;exact ih _ e
  | mark m k ih=>intro w r w' e;exact ih e
  | halt h=>intro w r w' e;cases e
 obtain⟨x,w1,e1⟩:=this e;exact h P w x w1 e1
theorem NS.bind{P:Program}{α β:Type} : ∀{m:Sem α} {f:α->Sem β},NS P m->(∀a,NS P (f a))->NS P (m.bind f):=by
 intro m
 induction m with
 | pure a=>exact λ_ h=>h a
 | load md a k ih=>exact λh hf v=>ih v (h v) hf
 | store md a v k ih=>exact λh hf=>ih h hf
 | new o k ih=>exact λh hf=>⟨h.1,λr=>ih r (h.2 r) hf⟩
 | shape r k ih=>exact λh _ s=>(h s).bind _
 | freeze a n k ih=>exact λh _=>rZ.bind h _
 | frozen a k ih=>exact λh _ b=>(h b).bind _
 | getObj r k ih=>exact λh hf o=>ih o (h o) hf
 | setObj r o k ih=>exact λh hf=>⟨h.1,ih h.2 hf⟩
 | choose q k ih=>exact λh hf n=>ih n (h n) hf
 | sys c k ih=>exact λh _ r=>(h r).bind _
 | program k ih=>exact λh hf=>ih P h hf
 | mark m k ih=>exact λh hf=>⟨h.1,ih h.2 hf⟩
 | halt h=>exact λ_ _=>trivial
def VR(o O:Option Obj):Prop:=∃cs t fr hi,o=some (.cells cs t fr)∧O=some (.cells cs t (0,hi))∧cs.size<=hi
structure View (S R:Nat->Prop) (w W:World):Prop where
 tape:w.tape=W.tape
 drawn:w.drawn=W.drawn
 os:w.os=W.os
 output:w.output=W.output
 size:w.heap.size=W.heap.size
 same:∀b:Nat,¬S b->¬R b->w.heap[b]? = W.heap[b]?
 lent:∀b:Nat,¬S b->R b->VR (w.heap[b]?) (W.heap[b]?)
 pois:∀b:Nat,S b->W.heap[b]? = some (.cells #[] 0 (0,0))
 plain:∀(b:Nat) (o:Obj),W.heap[b]? = some o->Obj.plain o
def EvS(S R:Nat->Prop)(n:Nat)(e:Event):Prop:=match e.loc with
 | .cell a=>¬S a.block∧a.block<n∧(e.write=true->¬R a.block)
 | .obj r=>¬S r∧r<n∧¬R r
 | .mark m=>m=.noRoom
 | _=>False
structure eG (S R:Nat->Prop) (w w':World):Prop where
 size:w.heap.size<=w'.heap.size
 same:∀b:Nat,S b∨R b->w'.heap[b]? = w.heap[b]?
 os:w'.os=w.os
 tape:w'.tape=w.tape
 output:w'.output=w.output
theorem eG.refl(S R:Nat->Prop)(w:World):eG S R w w:=⟨Nat.le_refl _,λ_ _=>rfl,rfl,rfl,rfl⟩
theorem eG.trans{S R:Nat->Prop}{a b c:World}(h:eG S R a b)(k:eG S R b c):eG S R a c:=⟨Nat.le_trans h.size k.size,λx hx=>(k.same x hx).trans (h.same x hx),k.os.trans h.os,k.tape.trans h.tape,k.output.trans h.output⟩
section
variable {R:Nat->Prop}{W:World}
theorem View.far(h:View S R w W) : ∃x,W.farLoad P a at_=.error x:=by unfold World.farLoad;split;rename_i b u hb;exact(h.plain _ _ hb).elim;exact⟨_,rfl⟩
theorem View.WO(h:View S R w W) : ∃x,W.farStore P a v at_=.error x:=by unfold World.farStore;split;rename_i b u hb;exact(h.plain _ _ hb).elim;exact⟨_,rfl⟩
theorem View.cell(h:View S R w W){a:Addr}{v:Value}(hc:W.cell? a=some v):¬S a.block∧w.cell? a=some v:=by
 have hs:¬S a.block:=λhs=>by have:=h.pois _ hs;unfold World.cell? at hc;rw[this] at hc;simp at hc
 refine⟨hs,?_⟩;by_cases hr:R a.block;obtain⟨cs,t,fr,hi,h1,h2,h3⟩:=h.lent _ hs hr;unfold World.cell? at hc ⊢;rw[h2] at hc;rw[h1];exact hc;unfold World.cell? at hc ⊢;rw[h.same _ hs hr];exact hc
theorem View.thaw(h:View S R w W)(hc:W.cell? a=some v)(hf:¬W.frozen? a=true):¬R a.block:=λhr=>by
 obtain⟨hs,_⟩:=h.cell hc;obtain⟨cs,t,fr,hi,h1,h2,h3⟩:=h.lent _ hs hr;unfold World.cell? at hc;unfold World.frozen? at hf;rw[h2] at hc hf;simp only at hc hf;split at hc;cases hc;have:=(Array.getElem?_eq_some_iff.1 hc).1;refine hf ?_;have h4:a.off<hi:=by omega
 simp[h4]
theorem View.frozen(h:View S R w W){a:Addr}(hs:¬S a.block)(hr:¬R a.block):w.frozen? a=W.frozen? a:=by unfold World.frozen?;rw[h.same _ hs hr]
theorem View.mod(h:View S R w W)(hs:¬S b0)(hr:¬R b0){f:Obj->Obj}(hf:∀o,Obj.plain o->Obj.plain (f o)):View S R {w with heap:=w.heap.modify b0 f} {W with heap:=W.heap.modify b0 f}:=by
 refine⟨h.tape,h.drawn,h.os,h.output,by simpa using h.size,λb hb Zh=>?_,λb hb Zh=>?_,λb hb=>?_,λb o ho=>?_⟩;simp only[Array.getElem?_modify];rw[h.same b hb Zh];have:b0≠b:=λe=>hr (e▸Zh);simp only[Array.getElem?_modify,if_neg this];exact h.lent b hb Zh;have:b0≠b:=λe=>hs (e▸hb);simp only[Array.getElem?_modify,if_neg this];exact h.pois b hb;simp only[Array.getElem?_modify] at ho;split at ho
 ·cases e:W.heap[b]? with
  | none=>rw[e] at ho;cases ho
  | some o'=>
   rw[e] at ho;obtain rfl:=Option.some.inj ho;exact hf _ (h.plain b o' e)
 exact h.plain b o ho
theorem eG.mod(hs:¬S b0)(hr:¬R b0){f:Obj->Obj} : eG S R w {w with heap:=w.heap.modify b0 f}:=by refine⟨by simp,λb hb=>?_,rfl,rfl,rfl⟩;have:b0≠b:=λe=>hb.elim (λx=>hs (e▸x)) λx=>hr (e▸x);simp only[Array.getElem?_modify,if_neg this]
theorem eG.set(hs:¬S a.block)(hr:¬R a.block):eG S R w (w.setCell a v):=eG.mod hs hr
theorem View.low(h:View S R w W){b:Nat}(hb:S b∨R b):b<W.heap.size:=by by_cases hs:S b;exact(Array.getElem?_eq_some_iff.1 (h.pois b hs)).1;rcases hb with hb|hb;exact(hs hb).elim;obtain⟨cs,t,fr,hi,h1,h2,h3⟩:=h.lent b hs hb;exact(Array.getElem?_eq_some_iff.1 h2).1
theorem eG.push(h:View S R w W){o:Obj} : eG S R w {w with heap:=w.heap.push o}:=by
 refine⟨by simp,λb hb=>?_,rfl,rfl,rfl⟩;have h2:b<W.heap.size:=h.low hb;have:b≠w.heap.size:=by rw[h.size];omega
 simp only[Array.getElem?_push,if_neg this]
theorem eG.NT{r:Nat}{o:Obj}(hs:¬S r)(hr:¬R r):eG S R w {w with heap:=w.heap.setIfInBounds r o}:=by refine⟨by simp,λb hb=>?_,rfl,rfl,rfl⟩;have:r≠b:=λe=>hb.elim (λx=>hs (e▸x)) λx=>hr (e▸x);simp only[Array.getElem?_setIfInBounds,if_neg this]
theorem BA(h:w.cell? a=some v):a.block<w.heap.size:=by
 unfold World.cell? at h;cases hb:w.heap[a.block]? with
 | none=>rw[hb] at h;cases h
 | some o=>exact(Array.getElem?_eq_some_iff.1 hb).1
theorem View.set(h:View S R w W)(hs:¬S a.block)(hr:¬R a.block):View S R (w.setCell a v) (W.setCell a v):=by refine h.mod hs hr λo ho=>?_;cases o<;>exact ho
theorem View.push(h:View S R w W){o:Obj}(ho:Obj.plain o):View S R {w with heap:=w.heap.push o} {W with heap:=W.heap.push o}:=by refine⟨h.tape,h.drawn,h.os,h.output,by simpa using h.size,λb hb Zh=>?_,λb hb Zh=>?_,λb hb=>?_,λb o' Zt=>?_⟩;simp only[Array.getElem?_push,h.size];rw[h.same b hb Zh];have h2:b<W.heap.size:=h.low (.inr Zh);simp only[Array.getElem?_push,h.size,if_neg (Nat.ne_of_lt h2)];exact h.lent b hb Zh;have h1:=h.pois b hb;have:b<W.heap.size:=(Array.getElem?_eq_some_iff.1 h1).1;simp only[Array.getElem?_push,if_neg (Nat.ne_of_lt this)];exact h1;simp only[Array.getElem?_push] at Zt;split at Zt;obtain rfl:=Option.some.inj Zt;exact ho;exact h.plain b o' Zt
theorem View.NT(h:View S R w W){r:Nat}{o:Obj}(hs:¬S r)(hr:¬R r)(ho:Obj.plain o):View S R {w with heap:=w.heap.setIfInBounds r o} {W with heap:=W.heap.setIfInBounds r o}:=by refine⟨h.tape,h.drawn,h.os,h.output,by simpa using h.size,λb hb Zh=>?_,λb hb Zh=>?_,λb hb=>?_,λb o' Zt=>?_⟩;simp only[Array.getElem?_setIfInBounds,h.size];rw[h.same b hb Zh];have:r≠b:=λe=>hr (e▸Zh);simp only[Array.getElem?_setIfInBounds,if_neg this];exact h.lent b hb Zh;have:r≠b:=λe=>hs (e▸hb);simp only[Array.getElem?_setIfInBounds,if_neg this];exact h.pois b hb;simp only[Array.getElem?_setIfInBounds] at Zt;split at Zt;split at Zt;obtain rfl:=Option.some.inj Zt;exact ho;cases Zt;exact h.plain b o' Zt
theorem View.draw(h:View S R w W):View S R {w with drawn:=w.drawn+1} {W with drawn:=W.drawn+1}:=
 ⟨h.tape,by show w.drawn+1=W.drawn+1;rw[h.drawn],h.os,h.output,h.size,h.same,h.lent,h.pois,h.plain⟩
end
theorem ck{R:Nat->Prop} : ∀{m:Sem α} {w W W':World} {r:α} (es:Array Event),NS P m->View S R w W->m.run P W=.ok r W'->
  ∃w',m.run P w=.ok r w'∧View S R w' W'∧eG S R w w'∧∀e∈m.events P w es,e∈es∨EvS S R w'.heap.size e:=by
 intro m
 induction m with
 | pure a=>
  intro w W W' r es _ h e;obtain⟨rfl,rfl⟩:=(by simpa[Sem.run] using e);exact⟨w,rfl,h,eG.refl _ _ _,λe he=>.inl he⟩
 | load md a k ih=>
  intro w W W' r es hn h e;simp only[Sem.run] at e;split at e
  ·rename_i v hc;obtain⟨h1,h2⟩:=h.cell hc;obtain⟨w',k1,k2,kk,k3⟩:=ih v (es.push ⟨.cell a,false,md==.atomic⟩) (hn v) h e;refine⟨w',by simp only[Sem.run,h2];exact k1,k2,kk,λe he=>?_⟩;have he:e∈(k v).events P w (es.push ⟨.cell a,false,md==.atomic⟩):=by
    have:(Sem.load md a k).events P w es=(k v).events P w (es.push ⟨.cell a,false,md==.atomic⟩):=by simp only[Sem.events,Sem.runT,h2]
    rwa [this] at he
   rcases k3 e he with q|q;rcases Array.mem_push.1 q with q|rfl;exact .inl q;exact .inr ⟨h1,Nat.lt_of_lt_of_le (BA h2) kk.size,λx=>by cases x⟩;exact .inr q
  obtain⟨x,hx⟩:=h.far (P:=P) (a:=a) (at_:=md==.atomic);rw[hx] at e;cases e
 | store md a v k ih=>
  intro w W W' r es hn h e;cases v with
  | agg vs=>simp only[Sem.run] at e;cases e
  | tuple vs=>simp only[Sem.run] at e;cases e
  | _=>
   simp only[Sem.run] at e;split at e;rename_i v0 hc;obtain⟨h1,h2⟩:=h.cell hc;split at e;cases e;rename_i hf;have hr:=h.thaw hc hf;have hf':¬w.frozen? a=true:=(by rw[h.frozen h1 hr];exact hf);obtain⟨w',k1,k2,kk,k3⟩:=ih (es.push ⟨.cell a,true,md==.atomic⟩) hn (h.set h1 hr) e;refine⟨w',by simp only[Sem.run,h2];rw[if_neg hf'];exact k1,k2,(eG.set h1 hr).trans kk,λe he=>?_⟩;simp only[Sem.events,Sem.runT,h2] at he;rw[if_neg hf'] at he;rcases k3 e he with q|q;rcases Array.mem_push.1 q with q|rfl;exact .inl q;exact .inr ⟨h1,Nat.lt_of_lt_of_le (BA h2) ((eG.set h1 hr).trans kk).size,λ_=>hr⟩;exact .inr q;obtain⟨x,hx⟩:=h.WO (P:=P) (a:=a) (at_:=md==.atomic);rw[hx] at e;cases e
 | new o k ih=>
  intro w W W' r es hn h e;simp only[Sem.run] at e;obtain⟨w',k1,k2,kk,k3⟩:=ih W.heap.size es (hn.2 _) (h.push hn.1) e;refine⟨w',by simp only[Sem.run];rw[h.size];exact k1,k2,(eG.push h).trans kk,λe he=>?_⟩;simp only[Sem.events,Sem.runT] at he;rw[h.size] at he;exact k3 e he
 | shape r k ih=>exact λes hn h e=>absurd e (hn _ _ _ _ _)
 | freeze a n k ih=>exact λes hn h e=>absurd e (hn _ _ _ _)
 | frozen a k ih=>exact λes hn h e=>absurd e (hn _ _ _ _ _)
 | getObj rr k ih=>
  intro w W W' r es hn h e;simp only[Sem.run] at e;split at e;cases e;rename_i o YY ho;have hs:¬S rr:=λhs=>(by have:=h.pois _ hs;rw[ho] at this;exact YY _ _ _ (Option.some.inj this));have hr:¬R rr:=λhr=>(by obtain⟨cs,t,fr,hi,q1,q2,q3⟩:=h.lent _ hs hr;rw[ho] at q2;exact YY _ _ _ (Option.some.inj q2));have Zt:w.heap[rr]? = some o:=(h.same _ hs hr).trans ho;obtain⟨w',k1,k2,kk,k3⟩:=ih o (es.push ⟨.obj rr,false,o.isChan⟩) (hn o) h e;have e1:(Sem.getObj rr k).run P w=(k o).run P w:=(by simp only[Sem.run,Zt]);have e2:(Sem.getObj rr k).events P w es=(k o).events P w (es.push ⟨.obj rr,false,o.isChan⟩):=(by simp only[Sem.events,Sem.runT,Zt]);refine⟨w',e1.trans k1,k2,kk,λe he=>?_⟩;rw[e2] at he;rcases k3 e he with q|q;rcases Array.mem_push.1 q with q|rfl;exact .inl q;exact .inr ⟨hs,Nat.lt_of_lt_of_le (Array.getElem?_eq_some_iff.1 Zt).1 kk.size,hr⟩;exact .inr q;cases e
 | setObj rr o k ih=>
  intro w W W' r es hn h e;simp only[Sem.run] at e;split at e;cases e;rename_i o0 YY ho;have hs:¬S rr:=λhs=>(by have:=h.pois _ hs;rw[ho] at this;exact YY _ _ _ (Option.some.inj this));have hr:¬R rr:=λhr=>(by obtain⟨cs,t,fr,hi,q1,q2,q3⟩:=h.lent _ hs hr;rw[ho] at q2;exact YY _ _ _ (Option.some.inj q2));have Zt:w.heap[rr]? = some o0:=(h.same _ hs hr).trans ho;obtain⟨w',k1,k2,kk,k3⟩:=ih (es.push ⟨.obj rr,true,o.isChan⟩) hn.2 (h.NT hs hr hn.1) e;have e1:(Sem.setObj rr o k).run P w=k.run P {w with heap:=w.heap.setIfInBounds rr o}:=(by simp only[Sem.run,Zt]);have e2:(Sem.setObj rr o k).events P w es=k.events P {w with heap:=w.heap.setIfInBounds rr o} (es.push ⟨.obj rr,true,o.isChan⟩):=(by simp only[Sem.events,Sem.runT,Zt]);refine⟨w',e1.trans k1,k2,(eG.NT hs hr).trans kk,λe he=>?_⟩;rw[e2] at he;rcases k3 e he with q|q;rcases Array.mem_push.1 q with q|rfl;exact .inl q;exact .inr ⟨hs,Nat.lt_of_lt_of_le (Array.getElem?_eq_some_iff.1 Zt).1 ((eG.NT hs hr).trans kk).size,hr⟩;exact .inr q;cases e
 | choose q k ih=>
  intro w W W' r es hn h e;simp only[Sem.run] at e;by_cases hq:q.forced=true;rw[if_pos hq] at e;obtain⟨w',k1,k2,kk,k3⟩:=ih 0 es (hn 0) h e;refine⟨w',by simp only[Sem.run];rw[if_pos hq];exact k1,k2,kk,λe he=>?_⟩;simp only[Sem.events,Sem.runT] at he;rw[if_pos hq] at he;exact k3 e he;rw[if_neg hq,<-h.tape,<-h.drawn] at e;obtain⟨w',k1,k2,kk,k3⟩:=ih _ es (hn _) (by have:=h.draw;rwa [<-h.drawn,<-h.tape] at this) e;refine⟨w',by simp only[Sem.run];rw[if_neg hq];exact k1,k2,⟨kk.size,kk.same,kk.os,kk.tape,kk.output⟩,λe he=>?_⟩;simp only[Sem.events,Sem.runT] at he;rw[if_neg hq] at he;exact k3 e he
 | sys c k ih=>exact λes hn h e=>absurd e (hn _ _ _ _ _)
 | program k ih=>
  intro w W W' r es hn h e;obtain⟨w',k1,k2,kk,k3⟩:=ih P es hn h e;exact⟨w',k1,k2,kk,k3⟩
 | mark mm k ih=>
  intro w W W' r es hn h e;obtain⟨w',k1,k2,kk,k3⟩:=ih (es.push ⟨.mark mm,false,true⟩) hn.2 h e;refine⟨w',k1,k2,kk,λe he=>?_⟩;rcases k3 e he with q|q;rcases Array.mem_push.1 q with q|rfl;exact .inl q;exact .inr hn.1;exact .inr q
 | halt hh=>
  intro w W W' r es _ _ e;cases e
structure Rv (W W1:World):Prop where
 os:W1.os=W.os
 tape:W1.tape=W.tape
 output:W1.output=W.output
 heap:∀(b:Nat) (o:Obj),W.heap[b]? = some o->W1.heap[b]? = some o
theorem Rv.refl(W:World):Rv W W:=⟨rfl,rfl,rfl,λ_ _ h=>h⟩
theorem Rv.trans{W W1 W2:World}(h:Rv W W1)(k:Rv W1 W2):Rv W W2:=⟨k.os.trans h.os,k.tape.trans h.tape,k.output.trans h.output,λb o e=>k.heap b o (h.heap b o e)⟩
theorem Rv.size{W W1:World}(h:Rv W W1):W.heap.size<=W1.heap.size:=by rcases Nat.eq_zero_or_pos W.heap.size with e|e;omega;have h1:W.heap[W.heap.size-1]? = some (W.heap[W.heap.size-1]'(by omega)):=Array.getElem?_eq_getElem (by omega);have:=(Array.getElem?_eq_some_iff.1 (h.heap _ _ h1)).1;omega
theorem Rv.same{W:World}(h:Rv W W1){b:Nat}(hb:b<W.heap.size):W1.heap[b]? = W.heap[b]?:=by have h1:W.heap[b]? = some (W.heap[b]'hb):=Array.getElem?_eq_getElem hb;rw[h1];exact h.heap _ _ h1
def Gk(P:Program)(g:Goroutine)(W:World)(g':Goroutine)(W':World):Prop:=
 ∀(main:Bool) (S R:Nat->Prop) (w:World),View S R w W->∃w' es,stepG P main g w=.go g' w' es∧View S R w' W'∧eG S R w w'∧∀e∈es,EvS S R w'.heap.size e
def Ends(P:Program)(Φ:Value->World->Prop)(m:Machine)(t:Trace):Prop:=
 ∃M last o w' t',runNT P (M+1) m t=(.ended o w',t')∧runN P M m=.next last∧step P last=.ended o w'∧Conc.Good P Φ last o w' t'
structure Beside (P:Program) (S:Nat->Prop) (gs:Array Goroutine) (w:World) (t:Trace):Prop where
 old:∃q,Leavers P t gs q
 past:∃Z9,Past Z9 w.heap.size t∧∀l,Z9 l->∃a:Addr,l=.cell a∧S a.block
 quiet:∀(k:Nat) (a:Addr),t.act? k≠some (.mark (.release a))
def Er(P:Program)(Φ:Value->World->Prop)(w00:World)(S0:Nat->Prop)(g:Goroutine)(W:World):Prop:=
 ∀W1,Rv W W1->w00.heap.size<=W1.heap.size->∀(S:Nat->Prop) (w:World) (gs:Array Goroutine) (sl:Option (Nat×Nat)) (t:Trace),View S (λ_=>False) w W1->((∀b:Nat,S0 b->S b∧w.heap[b]? = w00.heap[b]?)∧∀b:Nat,S b->S0 b∨w00.heap.size<=b)->gs[0]? = some g->Beside P S gs w t->Ends P Φ (crowd gs w sl) t
theorem Er.grown{Φ:Value->World->Prop}{w00:World}{S0:Nat->Prop}{W:World}(h:∀W1,Rv W W1->w00.heap.size<=W1.heap.size->Er P Φ w00 S0 g W1):Er P Φ w00 S0 g W:=λW1 r hz=>h W1 r hz W1 (Rv.refl W1) hz
def VP(P:Program)(f:FuncId)(args:Array Value)(W:World)(R:Ending->World->Prop):Prop:=
 ∀Φ w00 S0 cs,(∀e w' fr,R e w'->fr.fn=f->fr.leaving P w' e->Er P Φ w00 S0 (G fr cs) w')->Er P Φ w00 S0 (G (Frame.enter P f args .normal) cs) W
structure Closed (P:Program) (co:Bool) (E:Goroutine->World->Prop):Prop where
 mono:∀{g W W1},E g W->Rv W W1->E g W1
 step:∀{g W},g.status=.running->(∀W1,Rv W W1->∃g' W',Gk P g W1 g' W'∧E g' W')->E g W
 par:co=true->∀f args W R,VP P f args W R->∀cs,(∀e w' fr,R e w'->fr.fn=f->fr.leaving P w' e->E (G fr cs) w')->E (G (Frame.enter P f args .normal) cs) W
theorem Closed.I3{E:Goroutine->World->Prop}(h:Closed P co E):Closed P false E:=⟨h.mono,h.step,λe=>by cases e⟩
section
variable {E:Goroutine->World->Prop}
theorem Closed.cr(hE:Closed P co E){g':Goroutine}{W:World}(hs:g.status=.running)(h:∀main w,stepG P main g w=.go g' w #[])(k:E g' W):E g W:=
 hE.step hs λW1 h1=>⟨g',W1,λmain S R w hv=>⟨w,#[],h main w,hv,eG.refl _ _ _,λe he=>by simp at he⟩,hE.mono k h1⟩
end
def LO(P:Program){α:Type} : Sem α->Prop
 | .pure _=>True
 | .load _ _ k=>∀v,LO P (k v)
 | .program k=>LO P (k P)
 | .halt _=>True
 | _=>False
theorem LO.bind : ∀{m:Sem α} {f:α->Sem β},LO P m->(∀a,LO P (f a))->LO P (m.bind f):=by
 intro m
 induction m with
 | pure a=>exact λ_ h=>h a
 | load md a k ih=>exact λh hf v=>ih v (h v) hf
 | program k ih=>exact λh hf=>ih P h hf
 | halt h=>exact λ_ _=>trivial
 | _=>exact λh _=>h.elim
theorem LO.ns : ∀{m:Sem α},LO P m->NS P m:=by
 intro m
 induction m with
 | pure a=>exact λ_=>trivial
 | load md a k ih=>exact λh v=>ih v (h v)
 | program k ih=>exact λh=>ih P h
 | halt h=>exact λ_=>trivial
 | _=>exact λh=>h.elim
theorem pd{R:Nat->Prop}{W:World}(hr:Rv W W1)(hv:View S R w W1) : ∀{m:Sem α} {r:α} {W':World},LO P m->m.run P W=.ok r W'->m.run P W1=.ok r W1:=by
 intro m
 induction m with
 | pure a=>
  intro r W' _ e;simp only[Sem.run,Result.ok.injEq] at e ⊢;exact⟨e.1,trivial⟩
 | load md a k ih=>
  intro r W' h e;simp only[Sem.run] at e ⊢;cases hc:W.cell? a with
  | some v=>
   rw[hc] at e;have hc1:W1.cell? a=some v:=by
    unfold World.cell? at hc ⊢;cases hb:W.heap[a.block]? with
    | none=>rw[hb] at hc;cases hc
    | some o=>rw[hr.heap _ _ hb];rw[hb] at hc;exact hc
   rw[hc1];exact ih v (h v) e
  | none=>
   rw[hc] at e;exfalso;have hx:∃x,W.farLoad P a (md==.atomic)=.error x:=(by unfold World.farLoad;split;rename_i b u hb;exact(hv.plain _ _ (hr.heap _ _ hb)).elim;exact⟨_,rfl⟩);obtain⟨x,hx⟩:=hx;rw[hx] at e;cases e
 | program k ih=>exact λh e=>ih P h e
 | halt h=>intro r W' _ e;cases e
 | _=>exact λh _=>h.elim
theorem He(v:Value):LO P (asAddr v):=by unfold asAddr;split<;>trivial
theorem mA{P:Program}(a:Addr):∀(n i:Nat) (acc:Array Value),LO P (loadCellsFrom a i n acc)
 | 0,_,_=>trivial
 | n+1,i,acc=>λv=>mA a n (i+1) (acc.push v)
theorem ry(t:TypeId):LO P (typeInfo t):=by show LO P (match P.info? t with|some i=>pure i|none=>stuck "no such type");split<;>trivial
theorem uc{f:Program->Sem α}(h:LO P (f P)):LO P (program >>= f):=h
theorem wG(t:TypeId):LO P (sizeOf t):=LO.bind (ry t) λ_=>trivial
theorem Aj(t:TypeId):LO P (isAgg t):=by unfold isAgg;exact LO.bind (by unfold underlying;first|exact uc trivial|(refine uc ?_;split<;>trivial)) λa=>by cases a<;>trivial
theorem ud(t:TypeId)(a:Addr):LO P (loadVar t a):=by
 unfold loadVar;refine LO.bind (Aj t) λb=>?_;cases b with
 | true=>exact LO.bind (wG t) λn=>LO.bind (mA a n 0 #[]) λ_=>trivial
 | false=>exact λ_=>trivial
def N9(tmps:Array Value):ResultVar->Sem Value
 | .tmp t=>pure (tmps.getD t undef)
 | .cell a t=>do loadVar t (<-asAddr (tmps.getD a undef))
theorem EW{P:Program}{α β:Type}{f:α->Sem β}(h:∀x,LO P (f x)):∀(l:List α),LO P (l.mapM f)
 | []=>trivial
 | x::r=>by rw[List.mapM_cons];exact LO.bind (h x) λy=>LO.bind (EW h r) λ_=>trivial
theorem dz(fn:Func)(tmps:Array Value):LO P (results fn tmps):=by
 have e:results fn tmps=(fn.results.mapM (N9 tmps) >>= λvs=>pure (if h:vs.size=1 then vs[0] else .tuple vs)):=rfl;rw[e,Array.mapM_eq_mapM_toList];refine LO.bind ?_ λ_=>trivial;rw[map_eq_pure_bind];refine LO.bind (EW (λx=>?_) _) λ_=>trivial;cases x with
 | tmp t=>trivial
 | cell a t=>exact LO.bind (He _) λb=>ud t b
def bj(P:Program)(co:Bool)(f:FuncId)(args:Array Value)(W:World)(R:Ending->World->Prop):Prop:=
 ∀E,Closed P co E->∀cs,(∀e w' fr,R e w'->fr.fn=f->fr.leaving P w' e->E (G fr cs) w')->E (G (Frame.enter P f args .normal) cs) W
theorem bj.lift{W:World}{R:Ending->World->Prop}(h:bj P false f args W R):bj P co f args W R:=λE hE cs hc=>h E hE.I3 cs hc
theorem HQ{W:World}{R:Ending->World->Prop}(h:VP P f args W R):bj P true f args W R:=λE hE cs hc=>hE.par rfl f args W R h cs hc
theorem bj.mono{W:World}{R R':Ending->World->Prop}(h:bj P co f args W R)(k:∀e w,R e w->R' e w):bj P co f args W R':=
 λE hE cs hc=>h E hE cs λe w' fr hr=>hc e w' fr (k e w' hr)
def kl(P:Program)(co:Bool)(l:Nat)(fn:FuncId)(tmps:Array Value)(YI body:Code)(W:World)(R:Value->World->Prop):Prop:=
 ∀E,Closed P co E->∀(c:Frame) (cs:List Frame),(∀v W',R v W'->E (G (c.finish v) cs) W')->E (G (Frame.round l fn tmps YI body .normal) (c::cs)) W
theorem kl.mono{fn:FuncId}{tmps:Array Value}{W:World}{R R':Value->World->Prop}(h:kl P co l fn tmps YI body W R)(k:∀v w,R v w->R' v w):kl P co l fn tmps YI body W R':=
 λE hE c cs hc=>h E hE c cs λv w hr=>hc v w (k v w hr)
def zd(P:Program)(co:Bool)(o:Oper)(a:Act)(next:Act->World->Prop):Result Next->Prop
 | .ok (.value v) w'=>next (a.put o.dst v) w'
 | .ok .skip w'=>next (a.put o.dst undef) w'
 | .ok (.enter f args) w'=>bj P co f args w' fun
   | .returned v,w''=>next (a.put o.dst v) w''
   | _,_=>False
 | .ok (.round l fn tmps YI body) w'=>kl P co l fn tmps YI body w' λv w''=>next (a.put o.dst v) w''
 | _=>False
def c8(P:Program)(co:Bool)(o:Oper)(a:Act)(w:World)(next:Act->World->Prop):Prop:=zd P co o a next ((execOp a.eval o).run P w)
def OpJ(P:Program)(co:Bool)(o:Oper)(a:Act)(w:World)(next:Act->World->Prop):Prop:=NS P (execOp a.eval o)∧∀W1,Rv w W1->c8 P co o a W1 next
def Ue(E:Goroutine->World->Prop)(b:Frame)(k:List Item)(cs:List Frame):Exit->Act->World->Prop
 | .normal,a,w=>E (G (b.at a k) cs) w
 | .exit id,a,w=>∃k',exitTo id k=some k'∧E (G (b.at a k') cs) w
 | .ret,a,w=>∀todo,E (G {b.at a todo with mode:=.returning} cs) w
 | _,_,_=>True
def OA:Exit->Prop
 | .normal|.exit _|.ret=>True
 | _=>False
def wpJ(P:Program)(co:Bool)(c:Code)(Q:Exit->Act->World->Prop)(a:Act)(W:World):Prop:=
 ∀E,Closed P co E->∀(b:Frame) (k:List Item) (cs:List Frame),b.kind≠.early->b.roundOf=none->(∀e a' w',Q e a' w'->OA e∧Ue E b k cs e a' w')->E (G (b.at a (.code c::k)) cs) W
section
variable {Q Q':Exit->Act->World->Prop}{a:Act}{W:World}
theorem Cg{K':Act->World->Prop}(h:∀a w,K a w->K' a w){r:Result Next}(k:zd P co o a K r):zd P co o a K' r:=by
 unfold zd at *;split at k;exact h _ _ k;exact h _ _ k
 ·exact bj.mono k λe w he=>by
   cases e with
   | returned v=>exact h _ _ he
   | panicked c=>exact he.elim
   | outgrown=>exact he.elim
 exact kl.mono k λv w=>h _ _;exact k.elim
theorem OpJ.mono{K':Act->World->Prop}(h:∀a w,K a w->K' a w)(k:OpJ P co o a W K):OpJ P co o a W K':=⟨k.1,λW1 h1=>Cg h (k.2 W1 h1)⟩
theorem I0{c:Code}(h:wpJ P co c Q a W)(k:∀e a w,Q e a w->Q' e a w):wpJ P co c Q' a W:=λE hE b t cs h1 h2 h3=>h E hE b t cs h1 h2 λe a' w' hq=>h3 e a' w' (k e a' w' hq)
theorem zq{main:Bool}{b:Frame}{k:List Item}{cs:List Frame}{fn:FuncId}{tmps:Array Value}(ho:ops[i]? = some o)(hw:Region.wanted o (yielded ops a.tmps)=true)(hk:b.kind≠.early)(hr:(execOp a.eval o).run P w=.ok (.round l fn tmps YI body) w') :
  stepG P main (G (b.at a (.inRegion ops (i::rest)::k)) cs) w=.go (G (Frame.round l fn tmps YI body .normal) (b.at a (.inRegion ops (i::rest)::k)::cs)) w' (listed P b.fn a o w):=by
 have ZH:(b.kind==CallKind.early)=false:=by simpa using hk
 rw[stepG_oper ho hw];simp[stepG.apply,hr,G,Frame.at,ZH,GStep.after,listed]
theorem sA{E:Goroutine->World->Prop}(hE:Closed P co E){b:Frame}{k:List Item}{cs:List Frame}(hk:b.kind≠.early)(ho:ops[i]? = some o)(hw:Region.wanted o (yielded ops a.tmps)=true)(h:OpJ P co o a W K)(hK:∀a' w',K a' w'->E (G (b.at a' (.inRegion ops rest::k)) cs) w'):E (G (b.at a (.inRegion ops (i::rest)::k)) cs) W:=by
 refine hE.step rfl λW1 h1=>?_;have hu:=h.2 W1 h1;unfold c8 at hu;cases hr:(execOp a.eval o).run P W1 with
 | halt x w'=>rw[hr] at hu;exact hu.elim
 | ok x w'=>
  rw[hr] at hu;cases x with
  | value v=>
   refine⟨_,w',λmain S R w hv=>?_,hK _ _ hu⟩;obtain⟨u,k1,k2,kk,k3⟩:=ck #[] h.1 hv hr;refine⟨u,_,stepG_value ho hw hk k1,k2,kk,λe he=>?_⟩;rcases k3 e (mem_listed he) with q|q;simp at q;exact q
  | skip=>
   refine⟨_,w',λmain S R w hv=>?_,hK _ _ hu⟩;obtain⟨u,k1,k2,kk,k3⟩:=ck #[] h.1 hv hr;refine⟨u,_,stepG_none ho hw hk k1,k2,kk,λe he=>?_⟩;rcases k3 e (mem_listed he) with q|q;simp at q;exact q
  | enter f args=>
   refine⟨G (Frame.enter P f args .normal) (b.at a (.inRegion ops (i::rest)::k)::cs),w',λmain S R w hv=>?_,?_⟩;obtain⟨u,k1,k2,kk,k3⟩:=ck #[] h.1 hv hr;refine⟨u,_,stepG_enter ho hw hk k1,k2,kk,λe he=>?_⟩;rcases k3 e (mem_listed he) with q|q;simp at q;exact q;have hu:bj P co f args w' _:=hu;refine hu E hE _ λe w2 fr hR _ hl=>?_;cases e with
   | panicked c=>exact hR.elim
   | outgrown=>exact hR.elim
   | returned v=>
    have hR:K (a.put o.dst v) w2:=hR;obtain⟨l1,l2,l3,fn,l4,l5⟩:=hl;refine hE.step rfl λW3 h3=>⟨G (b.at (a.put o.dst v) (.inRegion ops rest::k)) cs,W3,λmain S R w hv=>?_,hE.mono (hK _ _ hR) h3⟩
    have e1:=pd h3 hv (dz fn fr.tmps) l5;obtain⟨u,k1,k2,kk,k3⟩:=ck #[] (dz fn fr.tmps).ns hv e1;refine⟨u,seen P fr.fn ((results fn fr.tmps).events P w #[]),?_,k2,kk,λe he=>?_⟩;have Y5:(b.at a (.inRegion ops (i::rest)::k)).finish v=b.at (a.put o.dst v) (.inRegion ops rest::k):=(by rw[Frame.finish_at,ho];rfl);rw[<-Y5];obtain⟨ffn,ftmps,ftodo,fdefers,fmode,fkind,fround⟩:=fr;simp only at l1 l2 l3 l4 k1;subst l1 l2 l3;simp[G,stepG,unwind,doReturn,l4,k1,GStep.after];rcases k3 e (mem_seen he) with q|q;simp at q;exact q
  | round l fn tmps YI body=>
   refine⟨G (Frame.round l fn tmps YI body .normal) (b.at a (.inRegion ops (i::rest)::k)::cs),w',λmain S R w hv=>?_,?_⟩;obtain⟨u,k1,k2,kk,k3⟩:=ck #[] h.1 hv hr;refine⟨u,_,zq ho hw hk k1,k2,kk,λe he=>?_⟩;rcases k3 e (mem_listed he) with q|q;simp at q;exact q;have hu:kl P co l fn tmps YI body w' _:=hu;refine hu E hE _ _ λv w2 hR=>?_;have Y5:(b.at a (.inRegion ops (i::rest)::k)).finish v=b.at (a.put o.dst v) (.inRegion ops rest::k):=(by rw[Frame.finish_at,ho];rfl);rw[Y5];exact hK _ _ hR
  | _=>exact hu.elim
def eX(P:Program)(co:Bool)(ops:Array Oper)(Q:Exit->Act->World->Prop):List Nat->Act->World->Prop
 | [],a,w=>Q .normal a w
 | i::rest,a,w=>match ops[i]? with
  | none=>eX P co ops Q rest a w
  | some o=>if Region.wanted o (yielded ops a.tmps)=true then OpJ P co o a w (eX P co ops Q rest) else eX P co ops Q rest (a.put o.dst undef) w
def cL(P:Program)(co:Bool)(ops:Array Oper)(Q:Exit->Act->World->Prop):List Oper->Act->World->Prop
 | [],a,w=>Q .normal a w
 | o::rest,a,w=>if Region.wanted o (yielded ops a.tmps)=true then OpJ P co o a w (cL P co ops Q rest) else cL P co ops Q rest (a.put o.dst undef) w
def oQ(P:Program)(co:Bool)(ops:Array Oper)(i:Nat)(K:Act->World->Prop)(a:Act)(w:World):Prop:=
 match ops[i]? with
 | none=>K a w
 | some o=>if Region.wanted o (yielded ops a.tmps)=true then OpJ P co o a w K else K (a.put o.dst undef) w
def mc(P:Program)(co:Bool)(md:Region.Mode)(ops:Array Oper)(Q:Exit->Act->World->Prop):Nat->Array Bool->Act->World->Prop
 | 0,listed,a,w=>Region.ready md ops listed=[]∧Q .normal a w
 | fuel+1,listed,a,w=>
  (Region.ready md ops listed=[]->Q .normal a w) ∧
  ∀i∈Region.ready md ops listed,oQ P co ops i (mc P co md ops Q fuel (listed.setIfInBounds i true)) a w
theorem sW{K':Act->World->Prop}(h:∀a w,K a w->K' a w)(k:oQ P co ops i K a W):oQ P co ops i K' a W:=by unfold oQ at *;split;rename_i e;rw[e] at k;exact h _ _ k;rename_i o e;rw[e] at k;simp only at k;split;rename_i hw;rw[if_pos hw] at k;exact k.mono h;rename_i hw;rw[if_neg hw] at k;exact h _ _ k
theorem y8(i:Nat)(rest:List Nat)(a:Act)(w:World):eX P co ops Q (i::rest) a w=oQ P co ops i (eX P co ops Q rest) a w:=by cases h:ops[i]?<;>simp[eX,oQ,h]
theorem xq{rest:List Oper}(h:∀K:Act->World->Prop,(∀a w,cL P co ops Q rest a w->K a w)->if Region.wanted o (yielded ops a.tmps)=true then OpJ P co o a W K else K (a.put o.dst undef) W) :
  cL P co ops Q (o::rest) a W:=h _ λ_ _ h=>h
theorem qT{ops:Array Oper} : ∀(l:List Oper) (k:Nat),(∀j:Nat,l[j]? = ops[k+j]?)->∀a w,cL P co ops Q l a w->eX P co ops Q (List.range' k l.length) a w
 | [],_,_,_,_,h=>h
 | o::l,k,hk,a,w,h=>by have h0:ops[k]? = some o:=(by simpa using (hk 0).symm);have ih:=qT l (k+1) λj=>(by have:=hk (j+1);simpa[Nat.add_assoc,Nat.add_comm 1 j] using this);rw[List.length_cons,List.range'_succ];simp only[eX,h0];simp only[cL] at h;split;rename_i hw;rw[if_pos hw] at h;exact h.mono λa w h=>ih a w h;rename_i hw;rw[if_neg hw] at h;exact ih _ _ h
theorem oR{md:Region.Mode} : ∀(fuel t:Nat) (listed:Array Bool) (a:Act) (w:World),mc P co md ops Q fuel listed a w->
  eX P co ops Q (Region.linearise.go md ops fuel t listed []) a w:=by
 intro fuel
 induction fuel with
 | zero=>intro t listed a w h;simpa[Region.linearise.go,eX] using h.2
 | succ fuel ih=>
  intro t listed a w h;obtain⟨h₀,h₁⟩:=h;simp only[Region.linearise.go];change eX P co ops Q (match (Region.ready md ops listed)[t%(Region.ready md ops listed).length]? with
   | some i=>Region.linearise.go md ops fuel (t/(Region.ready md ops listed).length) (listed.setIfInBounds i true) [i]
   | none=>[].reverse) a w
  cases hi:(Region.ready md ops listed)[t%(Region.ready md ops listed).length]? with
  | none=>
   have hnil:Region.ready md ops listed=[]:=by
    cases hr:Region.ready md ops listed with
    | nil=>rfl
    | cons x xs=>
     rw[hr] at hi;have X0:t%(x::xs).length<(x::xs).length:=Nat.mod_lt _ (by simp);simp at hi;simp at X0;omega
   simpa[eX] using h₀ hnil
  | some i=>
   simp only[];rw[linearise_go_acc,List.reverse_singleton,List.singleton_append,y8];exact sW (λa w=>ih _ _ a w) (h₁ i (List.mem_of_getElem? hi))
theorem wx{E:Goroutine->World->Prop}(hE:Closed P co E){b:Frame}{k:List Item}{cs:List Frame}(hk:b.kind≠.early){ops:Array Oper}(hQ:∀a' w',Q .normal a' w'->E (G (b.at a' k) cs) w') :
  ∀(l:List Nat) (a:Act) (W:World),eX P co ops Q l a W->E (G (b.at a (.inRegion ops l::k)) cs) W
 | [],a,W,h=>hE.cr rfl (λ_ _=>stepG_region_end) (hQ a W h)
 | i::rest,a,W,h=>by
  have ih:=wx (ops:=ops) hE hk hQ rest;cases ho:ops[i]? with
  | none=>
   simp only[eX,ho] at h;refine hE.cr rfl (λmain w=>?_) (ih a W h);have Y5:(b.at a (.inRegion ops (i::rest)::k)).finish undef=b.at a (.inRegion ops rest::k):=(by rw[Frame.finish_at,ho];rfl);rw[<-Y5];simp[G,stepG,stepG.exec,Frame.at,ho]
  | some o=>
  simp only[eX,ho] at h;split at h;rename_i hw;exact sA hE hk ho hw h λa' w' h'=>ih a' w' h';rename_i hw;exact hE.cr rfl (λ_ _=>stepG_unwanted ho (by simpa using hw)) (ih _ _ h)
theorem View.drew{R:Nat->Prop}{W:World}(h:View S R w W):View S R w.drew W.drew:=h.draw
theorem Rv.drew(W:World):Rv W W.drew:=⟨rfl,rfl,rfl,λ_ _ h=>h⟩
theorem sX{id:Nat}(hm:P.follows .mixedOrders=true)(h:∀W1,Rv W W1->mc P co .any ops Q ops.size (Array.replicate ops.size false) a W1):wpJ P co (.region id ops true) Q a W:=by
 intro E hE b k cs h1 h2 h3;refine hE.step rfl λW1 r1=>?_;obtain⟨t,ht⟩:∃t,t=(Question.order b.fn id).cut (W1.tape W1.drawn (.order b.fn id)):=⟨_,rfl⟩
 refine⟨G (b.at a (.inRegion ops (Region.schedule (P.follows .mixedOrders) ops t)::k)) cs,W1.drew,λmain S R w hv=>⟨w.drew,#[],?_,hv.drew,⟨Nat.le_refl _,λ_ _=>rfl,rfl,rfl,rfl⟩,λe he=>by simp at he⟩,?_⟩;have hc:(choose (.order b.fn id)).run P w=.ok t w.drew:=(by rw[ht,<-hv.tape,<-hv.drawn];rfl);generalize hqq:choose (.order b.fn id)=qq at hc;simp[G,stepG,stepG.exec,Frame.at,hqq,hc];refine wx hE h1 (λa' w' hq'=>(h3 _ _ _ hq').2) _ a _ ?_;simp only[Region.schedule,hm,Bool.true_or,if_true];exact oR ops.size t _ a _ (h _ (r1.trans (Rv.drew W1)))
def qL(P:Program)(co:Bool)(fn:Func)(R:Ending->World->Prop):Exit->Act->World->Prop
 | .normal,a,w|.ret,a,w=>a.defers=[]∧∃v,(results fn a.tmps).run P w=.ok v w∧R (.returned v) w
 | _,_,_=>False
theorem pC{fn:Func}{c:Code}{R:Ending->World->Prop}(hf:P.funcs[f]? = some fn)(hb:fn.body=some c)(h:wpJ P co c (qL P co fn R) {tmps:=args++Array.replicate (fn.ntmps-args.size) undef,defers:=[]} W):bj P co f args W R:=by
 intro E hE cs hc;let b:Frame:={ (default:Frame) with fn:=f,kind:=.normal}
 have henter:Frame.enter P f args .normal=b.at {tmps:=args++Array.replicate (fn.ntmps-args.size) undef,defers:=[]} [.code c]:=by simp[Frame.enter,Frame.at,hf,hb,b]
 rw[henter];have Zm:∀a' w' todo,(a'.defers=[]∧∃v,(results fn a'.tmps).run P w'=.ok v w'∧R (.returned v) w')->E (G {b.at a' todo with mode:=.returning} cs) w':=by rintro a' w' todo ⟨d,v,hv,hR⟩;exact hc (.returned v) w' _ hR rfl ⟨rfl,d,rfl,fn,hf,hv⟩
 refine h E hE b [] cs (by simp[b]) rfl λe a' w' hq=>?_;cases e with
 | normal=>exact⟨trivial,hE.cr rfl (λ_ _=>stepG_end) (Zm a' w' [] hq)⟩
 | ret=>exact⟨trivial,λtodo=>Zm a' w' todo hq⟩
 | exit _=>exact hq.elim
 | goto _=>exact hq.elim
 | panic _=>exact hq.elim
 | outgrown=>exact hq.elim
theorem bx(e:(execOp a.eval o).run P w=.ok (.value v) w)(h:K (a.put o.dst v) w):c8 P co o a w K:=by unfold c8;rw[e];exact h
theorem fg(e:(execOp a.eval o).run P w=.ok (.value v) w')(h:K (a.put o.dst v) w'):c8 P co o a w K:=by unfold c8;rw[e];exact h
end
inductive Gs (P:Program) (Q:Goroutine->World->Prop):Goroutine->World->Prop where
 | stop {g W} (h:Q g W):Gs P Q g W
 | step {g W} (hs:g.status=.running) (G':World->Goroutine) (W':World->World) (h:∀W1,Rv W W1->Gk P g W1 (G' W1) (W' W1)) (k:∀W1,Rv W W1->Gs P Q (G' W1) (W' W1)):Gs P Q g W
section
variable {Q Q':Goroutine->World->Prop}{W:World}
theorem Gs.go(hs:g.status=.running)(h:∀W1,Rv W W1->∃g' W',Gk P g W1 g' W'∧Gs P Q g' W'):Gs P Q g W:=by
 classical
 refine .step hs (λW1=>if r:Rv W W1 then(h W1 r).choose else g) (λW1=>if r:Rv W W1 then(h W1 r).choose_spec.choose else W1) (λW1 r=>?_) λW1 r=>?_;simp only[dif_pos r];exact(h W1 r).choose_spec.choose_spec.1;simp only[dif_pos r];exact(h W1 r).choose_spec.choose_spec.2
theorem Gs.later(hQ:∀{g W W1},Q g W->Rv W W1->Q g W1)(h:Gs P Q g W)(r:Rv W W1):Gs P Q g W1:=by
 cases h with
 | stop h=>exact .stop (hQ h r)
 | step hs G' W' h k=>exact .step hs G' W' (λW2 r2=>h W2 (r.trans r2)) λW2 r2=>k W2 (r.trans r2)
theorem dq(hQ:∀{g W W1},Q g W->Rv W W1->Q g W1):Closed P false (Gs P Q) where
 par:=λe=>by cases e
 mono:=λh r=>h.later hQ r
 step:=λhs h=>.go hs h
theorem Gs.mono(h:Gs P Q g W)(k:∀g W,Q g W->Q' g W):Gs P Q' g W:=by
 induction h with
 | stop h=>exact .stop (k _ _ h)
 | step hs G' W' h _ ih=>exact .step hs G' W' h ih
end
def World.behind(W w':World):World:={w' with heap:=W.heap++(Array.replicate (w'.heap.size-W.heap.size) (Obj.cells #[] 0 (0,0)))}
section
variable {R:Nat->Prop}{W:World}
theorem View.other(h:View S R w W)(hs:w.heap.size<=w'.heap.size)(hb:∀b:Nat,b<w.heap.size->¬S b->w'.heap[b]? = w.heap[b]?)(ho:w'.os=w.os)(ht:w'.tape=w.tape)(hp:w'.output=w.output)(hR:∀b,R b->b<w.heap.size) :
  ∃W',Rv W W'∧View (λb=>S b∨(w.heap.size<=b∧b<w'.heap.size)) R w' W':=by
 have hz:=h.size;refine⟨World.behind W w',⟨?_,?_,?_,λb o e=>?_⟩,⟨rfl,rfl,rfl,rfl,?_,λb h1 h2=>?_,λb h1 h2=>?_,λb h1=>?_,λb o e=>?_⟩⟩;show w'.os=W.os;rw[ho,h.os];show w'.tape=W.tape;rw[ht,h.tape];show w'.output=W.output;rw[hp,h.output];have hl:=(Array.getElem?_eq_some_iff.1 e).1;show (W.heap++_)[b]? = some o;rw[Array.getElem?_append_left hl];exact e;show w'.heap.size=(W.heap++_).size;simp;omega;show w'.heap[b]? = (W.heap++_)[b]?;have n1:¬S b:=λx=>h1 (.inl x);by_cases hl:b<w.heap.size;rw[Array.getElem?_append_left (by omega),<-h.same b n1 h2];exact hb b hl n1;have hl':¬b<w'.heap.size:=λx=>h1 (.inr ⟨by omega,x⟩);rw[Array.getElem?_eq_none (by omega),Array.getElem?_eq_none (by simp;omega)];have n1:¬S b:=λx=>h1 (.inl x);have hl:=hR b h2;obtain⟨cs,t,fr,hi,q1,q2,q3⟩:=h.lent b n1 h2;refine⟨cs,t,fr,hi,(hb b hl n1).trans q1,?_,q3⟩;show (W.heap++_)[b]? = _;rw[Array.getElem?_append_left (by omega)];exact q2
 ·show (W.heap++_)[b]? = _;rcases h1 with h1|⟨h1,h2⟩
  have hl:=h.low (.inl h1);rw[Array.getElem?_append_left hl];exact h.pois b h1;rw[Array.getElem?_append_right (by omega),Array.getElem?_replicate,if_pos (by omega)]
 have e:(W.heap++Array.replicate (w'.heap.size-W.heap.size) (Obj.cells #[] 0 (0,0)))[b]? = some o:=e;by_cases hl:b<W.heap.size;rw[Array.getElem?_append_left hl] at e;exact h.plain b o e;rw[Array.getElem?_append_right (by omega),Array.getElem?_replicate] at e;split at e;obtain rfl:=Option.some.inj e;trivial;cases e
theorem View.beside{S2 R2:Nat->Prop}(h:View S R w W)(k:eG S2 R2 w w')(hd:∀b:Nat,b<w.heap.size->S b∨S2 b∨R2 b)(hR:∀b,R b->b<w.heap.size) :
  ∃W',Rv W W'∧View (λb=>S b∨(w.heap.size<=b∧b<w'.heap.size)) R w' W':=
 h.other k.size (λb hl hn=>k.same b ((hd b hl).resolve_left hn)) k.os k.tape k.output hR
end
end Go.Proofs.YtmdpdknpapjchaaGreatDoor
