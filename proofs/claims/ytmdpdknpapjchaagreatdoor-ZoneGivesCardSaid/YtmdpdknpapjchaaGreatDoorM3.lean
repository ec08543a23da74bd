/- Company, 27: the end of a phase with one. -/
import Derived.Test.YtmdpdknpapjchaaGreatDoorM2
set_option linter.all false
namespace Go.Proofs.YtmdpdknpapjchaaGreatDoor
section
open Go.Conc Go.ConcN
open Go.ConcN (sumTo upd sumTo_upd upd_ne upd_same)
open Go.ConcR (KK wgBlock WgAt stA smA rd wr mk DC0)
variable {d n:Nat}{w':World}
section
variable {P:Program}{C C':Cw P}{gs Yn:Array Goroutine}{w W:World}{t u:Trace}{S:Nat->Nat->Prop}{V:Nat->World}{rk rk':Nat->Rk}{q:Nat->Nat}{i j:Nat}{g g' g1 g2:Goroutine}{es:Array Event}{fn:FuncId}{pos:String}
theorem bC.quit(h:bC C gs w t S V rk q)(hw0:C'.w0=C.w0)(Yx:∀j,C'.act j↔C.act j∧j≠i)(hR:C'.R=C.R){Ch:Nat->Prop}(hch:∀b,Ch b->∀j,C.act j->S j b)(hw:qQ Ch w w'){p p':Goroutine}(ha:C.act i)(hq:QuitsD P n d g')(hd:Deaf (t++MemOp.ofEvents i fn pos es) i=d)
  (walk:∀(j:Nat) (y:Goroutine),C.act j->j≠i->gs[j]? = some y->ZP P (C'.Q j) (rk j) (woken P p p' w' y) (V j))
  (zb:∀b:Nat,C'.Zb b->(∀j,C.act j->S j b∨C.R j b)∧w'.heap[b]? = C'.z b)
  (iv:C'.Iv S w.heap.size (t++MemOp.ofEvents i fn pos es)) (still:∀j:Nat,C'.lib j->rk j=.leaf) :
  bC C' ((gs.map (woken P p p' w')).setIfInBounds i g') w' (t++MemOp.ofEvents i fn pos es) S (λj=>(V j).at w'.drawn) rk (upd q i n):=by
 have hg:∀op∈MemOp.ofEvents i fn pos es,op.g=i:=λop XZ=>by obtain⟨e,_,rfl⟩:=Go.Conc.mem_ofEvents XZ;rfl
 have X0:=h.here i ha;refine⟨λk y hk hy=>?_,λk hk=>?_,λa b ha hb XW x hx=>?_,λb hb=>⟨λk hk=>by rw[hR];exact(zb b hb).1 k ((Yx k).1 hk).1,(zb b hb).2⟩,λk y hk hy=>?_,λk hk=>?_,by rw[hw.size];exact iv,still,λk hk=>by simpa using h.here k ((Yx k).1 hk).1,by rw[hw0];exact⟨hw.os.trans h.base.os,hw.tape.trans h.base.tape,hw.output.trans h.base.output⟩⟩
 ·obtain⟨k1,k2⟩:=(Yx k).1 hk;rcases nc hy with ⟨e,_,_⟩|⟨e,x,hx,rfl⟩
  exact P' e k2;exact ZP.at_ (Q:=C'.Q k) (λh r=>C'.later h r) (walk k x k1 k2 hx) _
 rw[hR];exact(h.view k ((Yx k).1 hk).1).Q0 hw λb hb=>hch b hb k ((Yx k).1 hk).1;rw[hR];exact h.apart a b ((Yx a).1 ha).1 ((Yx b).1 hb).1 XW x (by rw[<-hw.size];exact hx)
 ·rcases nc hy with ⟨e,_,rfl⟩|⟨e,x,hx,rfl⟩
  subst e;rw[upd_same,hd];exact hq;have ZH:¬C.act k:=λz=>hk ((Yx k).2 ⟨z,e⟩);rw[woken_quitsD (h.old k x ZH hx),upd_ne q n e,Deaf_other t (Ne.symm e) _ hg];exact h.old k x ZH hx
 rw[Deaf_other t (g':=i) (by simp at hk;omega) _ hg];exact h.above k (by simpa using hk)
theorem bC.Sb(h:bC C gs w t S V rk q)(hw0:C'.w0=C.w0)(Yx:∀j,C'.act j↔C.act j)(hR:C'.R=C.R)(walk:∀(j:Nat) (y:Goroutine),C.act j->gs[j]? = some y->ZP P (C'.Q j) (rk' j) y (V j))
  (zb:∀b:Nat,C'.Zb b->(∀j,C.act j->S j b∨C.R j b)∧w.heap[b]? = C'.z b) (iv:C'.Iv S w.heap.size t) (still:∀j:Nat,C'.lib j->rk' j=.leaf):bC C' gs w t S V rk' q:=
 ⟨λk y hk hy=>walk k y ((Yx k).1 hk) hy,λk hk=>by rw[hR];exact h.view k ((Yx k).1 hk),λa b ha hb XW x hx=>by rw[hR];exact h.apart a b ((Yx a).1 ha) ((Yx b).1 hb) XW x hx,
  λb hb=>⟨λk hk=>by rw[hR];exact(zb b hb).1 k ((Yx k).1 hk),(zb b hb).2⟩,λk y hk hy=>h.old k y (λz=>hk ((Yx k).2 z)) hy,h.above,iv,still,λk hk=>h.here k ((Yx k).1 hk),by rw[hw0];exact h.base⟩
theorem zC(hi:gs[i]? = some g)(hg:g.status=.running)(hg':g'.status≠.running):dc (gs.setIfInBounds i g')<dc gs:=by
 obtain⟨X0,e⟩:=E'.1 hi;have key:∀(l:List Goroutine) (i:Nat),l[i]? = some g->((l.set i g').filter λg=>g.status==.running).length<(l.filter λg=>g.status==.running).length:=by
  intro l
  induction l with
  | nil=>intro i h;simp at h
  | cons a l ih=>
   intro i h;cases i with
   | zero=>
    simp only[List.getElem?_cons_zero,Option.some.injEq] at h;subst h;simp[List.filter_cons,hg,hg']
   | succ i=>
    have:=ih i (by simpa using h);simp only[List.set_cons_succ,List.filter_cons];split<;>simp<;>omega
 have:=key gs.toList i (by simpa using hi);unfold dc;simpa using this
end
section
variable {P:Program}{ty:TypeId}{J Wg c:Nat}{X:Wq P ty Wg}{Sh Sst Rm:Nat->Prop}{Fin:Goroutine->Prop}{hFin:∀g,Fin g->g.status=.running}{Zf:Nat->Prop}{zf:Nat->Option Obj}{hZ:Zf Wg}{w0:World}{m m':MK}{mf mf':Nat}{k k':WK}{kf kf':Nat}{gs:Array Goroutine}{w:World}{t:Trace}{S:Nat->Nat->Prop}{V:Nat->World}{rk:Nat->Rk}{q:Nat->Nat}{g g':Goroutine}{es:Array Event}{sl:Option (Nat×Nat)}
theorem v8(h:bC (Zd P ty J Wg c X Sh Sst Rm Fin hFin Zf zf hZ w0 m mf k kf) gs w t S V rk q)(hJ:J≠0)(hkl:k.lib=true)(hi:gs[J]? = some g)(hs:stepG P false g w=.go g' w' es)(hw:Aside Wg w w')(hq':QuitsD P n d g')(hd:Deaf (t++MemOp.ofEvents J g.frame.fn g.frame.place es) J=d)
  (hz:w'.heap[Wg]? = some (wgBlock ty (stV m .gone) (smV m .gone))) (hwk:m=.sem->mayWake P g=true) (hiv:ivP J Wg Sh Rm m.deaf k'.deaf (ZO J Wg m .gone) (ExK J Wg c w0.heap.size Zf Sst .gone) S w.heap.size (t++MemOp.ofEvents J g.frame.fn g.frame.place es)) :
  ∃Yn V' q',runT P (crowd gs w sl) J=(.next (crowd Yn w' sl),MemOp.ofEvents J g.frame.fn g.frame.place es)∧bC (Zd P ty J Wg c X Sh Sst Rm Fin hFin Zf zf hZ w0 m mf .gone 0) Yn w' (t++MemOp.ofEvents J g.frame.fn g.frame.place es) S V' rk q':=by
 have hk:k≠.gone:=λe=>by rw[e] at hkl;cases hkl
 have ej:=uh (J:=J) hk;have hJ0:(J==0)=false:=by simpa using hJ
 refine⟨_,_,_,runT_crowd_go hi (by rw[hJ0];exact hs),h.quit (C':=Zd P ty J Wg c X Sh Sst Rm Fin hFin Zf zf hZ w0 m mf .gone 0) (i:=J) rfl (λj=>?_) rfl (Ch:=λb=>b=Wg) (λb hb j hj=>hb▸h.trace.2.2.1 j hj) (kZ hw) (.inr ej.symm) hq' hd (λj y hj XW hy=>?_) (λb hb=>?_) ?_ λj hj=>?_⟩;show (j=0∨j=0)↔(j=0∨j=jOf J k)∧j≠J;rw[ej];constructor;rintro(rfl|rfl);exact⟨.inl rfl,λe=>hJ e.symm⟩;exact⟨.inl rfl,λe=>hJ e.symm⟩;rintro⟨x|x,y⟩;exact .inl x;exact P' x y
 ·have hj0:j=0:=(by rcases hj with x|x;exact x;exact P' (x.trans ej) XW);subst hj0;have hq:=h.walk 0 y hj hy;have hw2:=dX hz;cases hr:rk 0 with
  | leaf=>
   rw[hr] at hq;refine⟨λ_=>?_,λe=>P' rfl e⟩;have h1:=hq.1 rfl;rcases xI hFin h1 hw2 with XV|⟨_,rfl,g0,rfl,h0⟩
   ·rw[woken_run XV];cases m<;>first|exact h1|skip
    rcases h1 with h1|⟨_,g0,rfl,_⟩
    exact .inl h1;exact P' XV (by simp)
   have:woken P g g' w' ({g0 with status:=.blocked} : Goroutine)=g0:=(by have a2:(g'.status != .blocked&&g'.status != .waiting)=true:=(by rcases hq'.status with e|e<;>rw[e]<;>rfl);unfold woken;rw[hwk rfl,Bool.true_and,Xl a2];exact again_blocked h0.2.1 h0.1 w');rw[this];exact .inl (bA h0)
  | mk f=>
   rw[hr] at hq;rw[woken_run hq.1];have hm:m=.own:=(by by_cases e:m=.own;exact e;have:=h.still 0 (.inl ⟨rfl,e⟩);rw[hr] at this;cases this);subst hm;have e2:(Zd P ty J Wg c X Sh Sst Rm Fin hFin Zf zf hZ w0 .own mf k kf).Q 0=(Zd P ty J Wg c X Sh Sst Rm Fin hFin Zf zf hZ w0 .own mf .gone 0).Q 0:=by
    funext a b;show ((0=0->pJ P true ty Wg Fin a)∧(0≠0->QW P ty Wg X.R X.D k kf a b))=((0=0->pJ P true ty Wg Fin a)∧(0≠0->True))
    simp
   rw[<-e2];exact hq
 ·refine⟨(h.common b hb).1,?_⟩;show _=ZY ty Wg zf m .gone b;unfold ZY;by_cases e:b=Wg;rw[Xl e,e];exact hz;rw[Xk e,hw.block b e];have:=(h.common b hb).2;change _=ZY ty Wg zf m k b at this;unfold ZY at this
  rwa [Xk e] at this
 exact hiv.alone;rcases hj with e|⟨-,-,e⟩
 exact h.still j (.inl e);cases e
theorem Bh(hJ0:J≠0)(h:bC (Zd P ty J Wg c X Sh Sst Rm Fin hFin Zf zf hZ w0 m mf k kf) gs w t S V rk q):(∀g∈gs,awake g)∧∃(i:Nat) (g:Goroutine),gs[i]? = some g∧g.status=.running:=by
 have hw:WgLive ty Wg w:=dX (ty:=ty) (Wg:=Wg) (by
  have:=(h.common Wg hZ).2;change _=ZY ty Wg zf m k Wg at this;unfold ZY at this
  rwa [Xl rfl] at this)
 have h0:∀y,gs[0]? = some y->y.status=.running∨(k≠.gone∧y.status=.blocked):=λy hy=>by
  have hq:=h.walk 0 y (.inl rfl) hy;cases hr:rk 0 with
  | leaf=>
   rw[hr] at hq;rcases xI hFin (hq.1 rfl) hw with x|⟨x,_,g0,rfl,_⟩
   exact .inl x;exact .inr ⟨x,rfl⟩
  | mk f=>rw[hr] at hq;exact .inl hq.1
 have hJ:∀j y,j≠0->j=jOf J k->gs[j]? = some y->y.status=.running:=λj y XW hj hy=>by
  obtain⟨e,hk⟩:=qk (J:=J) (k:=k) (by rw[<-hj];exact XW);have hq:=h.walk j y (.inr hj) hy;cases hr:rk j with
  | leaf=>rw[hr] at hq;exact CG X.runR X.runD (hq.2 XW) hk hw
  | mk f=>rw[hr] at hq;exact hq.1
 refine⟨λy hy=>?_,?_⟩;obtain⟨j,X0,rfl⟩:=Array.mem_iff_getElem.1 hy;have hy':gs[j]? = some gs[j]:=F' X0;by_cases e0:j=0;subst e0;exact awake_of ((h0 _ hy').imp id λx=>.inl x.2);by_cases e1:j=jOf J k;exact awake_of (.inl (hJ j _ e0 e1 hy'));exact awake_of ((h.old j _ (λx=>x.elim e0 e1) hy').status.imp id .inr);have hy:gs[0]? = some (gs[0]'(h.here 0 (.inl rfl))):=F' _;rcases h0 _ hy with x|⟨x,_⟩
 exact⟨0,_,hy,x⟩;have e:=uh (J:=J) x;have X0:=h.here J (.inr e.symm);exact⟨J,_,F' X0,hJ J _ hJ0 e.symm (F' X0)⟩
end
end
section
open Go.Conc
def frz:Obj->Obj
 | .cells cs t _=>.cells cs t (0,cs.size)
 | o=>o
open Classical in
noncomputable def maskAt(S R:Nat->Prop)(b:Nat)(o:Obj):Obj:=if S b then .cells #[] 0 (0,0) else if R b then frz o else o
noncomputable def mask(S R:Nat->Prop)(w:World):World:={w with heap:=w.heap.mapIdx (maskAt S R)}
section
variable {S R:Nat->Prop}{w:World}
theorem my(b:Nat):(mask S R w).heap[b]? = (w.heap[b]?).map (maskAt S R b):=by show (w.heap.mapIdx (maskAt S R))[b]? = _;simp[Array.getElem?_mapIdx]
theorem wD{b:Nat}(hs:¬S b)(hr:¬R b):(mask S R w).heap[b]? = w.heap[b]?:=by
 rw[my];cases w.heap[b]? with
 | none=>rfl
 | some o=>show some (maskAt S R b o)=some o;unfold maskAt;rw[Xk hs,Xk hr]
theorem kD(hp:∀(b:Nat) (o:Obj),¬S b->w.heap[b]? = some o->Obj.plain o)(hs:∀b:Nat,S b->b<w.heap.size)(hr:∀b:Nat,¬S b->R b->∃cs t fr,w.heap[b]? = some (.cells cs t fr)):View S R w (mask S R w):=by refine⟨rfl,rfl,rfl,rfl,by simp[mask],λb h1 h2=>(wD h1 h2).symm,λb h1 h2=>?_,λb h1=>?_,λb o h1=>?_⟩;obtain⟨cs,t,fr,e⟩:=hr b h1 h2;refine⟨cs,t,fr,cs.size,e,?_,F2 _⟩;rw[my,e];show some (maskAt S R b _)=_;unfold maskAt;rw[Xk h1,Xl h2];rfl;have hl:=hs b h1;rw[my,F' hl];show some (maskAt S R b _)=_;unfold maskAt;rw[Xl h1];rw[my] at h1;obtain⟨o',e,rfl⟩:=Option.map_eq_some_iff.1 h1;unfold maskAt;split;trivial;rename_i h2;have:=hp b o' h2 e;split;cases o'<;>exact this;exact this
theorem G9{a:Addr}(hs:¬S a.block):(mask S R w).cell? a=w.cell? a:=by
 unfold World.cell?;rw[my];cases w.heap[a.block]? with
 | none=>rfl
 | some o=>
  show (match some (maskAt S R a.block o) with|some (.cells c _ _)=>if a.spot.isSome then none else c[a.off]?|_=>none)=_;unfold maskAt;rw[Xk hs];split;rename_i e;by_cases hr:R a.block;rw[Xl hr] at e;cases o<;>simp_all [frz];rw[Xk hr] at e;obtain rfl:=Oi e;rfl;rename_i e;by_cases hr:R a.block;rw[Xl hr] at e;cases o<;>simp_all [frz];rw[Xk hr] at e;cases o<;>simp_all
end
end
section
open Go.Conc Go.ConcN
open Go.ConcN (sumTo upd sumTo_upd upd_ne upd_same)
open Go.ConcR (KK wgBlock WgAt stA smA rd wr mk DC0)
section
variable {P:Program}{ty:TypeId}{J Wg c:Nat}{X:Wq P ty Wg}{Sst Rm:Nat->Prop}{Fin:Goroutine->Prop}{hFin:∀g,Fin g->g.status=.running}{Zf:Nat->Prop}{zf:Nat->Option Obj}{hZ:Zf Wg}{w0:World}{m m':MK}{mf mf':Nat}{k k':WK}{kf kf':Nat}
 {gs:Array Goroutine} {w w':World} {t:Trace} {S:Nat->Nat->Prop} {V:Nat->World} {rk:Nat->Rk} {q:Nat->Nat} {g g':Goroutine} {es:Array Event} {sl:Option (Nat×Nat)} {Φ:Value->World->Prop} {w00:World} {S0:Nat->Prop}
def YM(Wg:Nat)(Sst:Nat->Prop)(b:Nat):Prop:=Sst b∨b=Wg
theorem KG(hS0:∀b:Nat,S0 b->Sst b∧zf b=w00.heap[b]?∧b≠Wg)(hSst:∀b:Nat,Sst b->S0 b∨w00.heap.size<=b)(hWg:w00.heap.size<=Wg)(hpl:∀(b:Nat) (o:Obj),Zf b->¬YM Wg Sst b->zf b=some o->Obj.plain o)
  (HJ:∀g,Fin g->∀w W':World,(∀b:Nat,Zf b->b≠Wg->w.heap[b]? = zf b)->Bas w0 w->View (YM Wg Sst) (λ_=>False) w W'->Er P Φ w00 S0 g W')
  (h:bC (Zd P ty J Wg c X (YM Wg Sst) Sst Rm Fin hFin Zf zf hZ w0 .fin mf .gone kf) gs w t S V rk q) (hg:gs[0]? = some g) (hF:Fin g):Ends P Φ (crowd gs w sl) t:=by
 obtain⟨i1,i2,i3,i4,i5,i6⟩:=h.trace;have hz:∀b:Nat,Zf b->b≠Wg->w.heap[b]? = zf b:=λb hb XW=>by
  have:=(h.common b hb).2;change _=ZY ty Wg zf .fin .gone b at this;unfold ZY at this
  rwa [Xk XW] at this
 have hv0:=h.view 0 (.inl rfl);have ZM:∀b:Nat,S 0 b->b<w.heap.size:=λb hb=>by rw[hv0.size];exact hv0.low (.inl hb)
 have hv:=kD (S:=YM Wg Sst) (R:=λ_=>False) (w:=w) (λb o hb ho=>by
  by_cases hs:S 0 b;have XW:b≠Wg:=λe=>hb (.inr e);exact hpl b o (i4 b hs) hb (by rw[<-hz b (i4 b hs) XW];exact ho)
  ·by_cases hr:Rm b;obtain⟨cs,t,fr,hi,e,-,-⟩:=hv0.lent b hs hr;rw[ho] at e;obtain rfl:=Oi e;trivial
   ·exact hv0.plain b o (by rw[<-hv0.same b hs hr];exact ho)) (λb hb=>by
  rcases hb with hb|rfl;exact ZM b (i5 b hb)
  ·exact i6) (λb _ hb=>hb.elim)
 refine HJ g hF w _ hz h.base hv _ (Rv.refl _) (Nat.le_trans (Nat.le_trans hWg (Nat.le_of_lt i6)) (Nat.le_of_eq hv.size)) _ w gs sl t hv ⟨λb hb=>?_,λb hb=>?_⟩ hg ⟨⟨q,⟨λj y hj hy=>h.old j y (λx=>by rcases x with x|x<;>exact P' (show j=0 from x) (by omega)) hy,h.above⟩⟩,⟨λl=>∃a:Addr,l=.cell a∧YM Wg Sst a.block,⟨i1.clean,λk a hk hm=>?_,λk g hg XW hc=>?_,i2.d0,i1.seen⟩,λl hl=>hl⟩,i2.norel⟩;obtain⟨a1,a2,a3⟩:=hS0 b hb;exact⟨.inl a1,by rw[hz b (i4 b (i5 b a1)) a3];exact a2⟩;rcases hb with hb|rfl;exact hSst b hb;exact .inr hWg
 ·obtain⟨b,hb⟩:=oN hm;rcases i2.all k a hk b hb with x|x|⟨x1,⟨ad,x2⟩,x3,-⟩
  exact .inl x;exact P' (x.1 rfl) (by simp[MK.joined]);refine .inr ⟨⟨ad,x2,?_⟩,x1⟩;rw[vd x2 hb];exact x3
 obtain⟨x,hx,hm,-⟩:=id hc;obtain⟨b,hb⟩:=oN hm;rcases i2.all k x hx b hb with y|y|⟨-,-,-,y⟩
 obtain⟨p,z,h1,h2,h3⟩:=y;refine⟨p,by simp[Trace.g?,h1,h2],?_⟩;rcases h3 with rfl|h3;have:t.g? k=some 0:=(by simp[Trace.g?,h1,h2]);rw[this] at hg;exact P' (Oi hg).symm XW;exact h3;exact P' (y.1 rfl) (by simp[MK.joined]);exact y g hg XW hc
theorem je(h:dC m k)(hm:m=.ld2∨m=.ke∨m=.aq∨m=.fin∨m=.fini):k=.gone:=by cases k<;>first|rfl|(exfalso;rcases hm with rfl|rfl|rfl|rfl|rfl<;>simp[dC] at h)
theorem Ee(X':dC m k)(hk:k≠.gone)(hm:m=.ld∨m=.cas):stV m k=KK∧smV m k=0:=by rcases hm with rfl|rfl<;>cases k<;>first|exact⟨rfl,rfl⟩|exact P' rfl hk|(exfalso;simp[dC] at X')
theorem NG(X':dC .ld k)(hk:k≠.gone):stV .cas k=KK∧smV .cas k=0:=by cases k<;>first|exact⟨rfl,rfl⟩|exact P' rfl hk|(exfalso;simp[dC] at X')
theorem RV(X':dC .cas k)(hk:k≠.gone):stV .wr k=KK+1∧smV .wr k=0:=by cases k<;>first|exact⟨rfl,rfl⟩|exact P' rfl hk|(exfalso;simp[dC] at X')
theorem U6(X':dC .kd k):dC .ld k:=by cases k<;>first|trivial|(exfalso;simp[dC] at X';done)|simp[dC]
theorem U5(X':dC .ld k):dC .cas k:=by cases k<;>first|trivial|(exfalso;simp[dC] at X';done)|simp[dC]
theorem Sr(X':dC .cas k):dC .wr k:=by cases k<;>first|trivial|(exfalso;simp[dC] at X';done)|simp[dC]
theorem U4(X':dC .wr k):dC .sem k:=by cases k<;>first|trivial|(exfalso;simp[dC] at X';done)|simp[dC]
theorem ND(hk:k≠.gone):smV .sem k=0:=by cases k<;>first|rfl|exact P' rfl hk
theorem ly(i:Nat)(fn:FuncId)(pos:String)(e1 e2:Event):t++MemOp.ofEvents i fn pos #[e1,e2]=t++#[{g:=i,fn,pos,act:=.ofEvent e1}]++#[{g:=i,fn,pos,act:=.ofEvent e2}]:=by rw[ofEvents_eq];apply Array.ext';simp
theorem ofEvents_one(i:Nat)(fn:FuncId)(pos:String)(e1:Event):t++MemOp.ofEvents i fn pos #[e1]=t++#[{g:=i,fn,pos,act:=.ofEvent e1}]:=by rw[ofEvents_eq];apply Array.ext';simp
theorem nR(i:Nat)(fn:FuncId)(pos:String)(e1 e2 e3 e4:Event):t++MemOp.ofEvents i fn pos #[e1,e2,e3,e4]=t++#[{g:=i,fn,pos,act:=.ofEvent e1}]++#[{g:=i,fn,pos,act:=.ofEvent e2}]++#[{g:=i,fn,pos,act:=.ofEvent e3}]++#[{g:=i,fn,pos,act:=.ofEvent e4}]:=by rw[ofEvents_eq];apply Array.ext';simp
theorem jN(h1:m'.joined=false){op:MemOp} : ∀i,ZO J Wg m k t i->ZO J Wg m' k (t++#[op]) i:=λi h=>⟨λ_=>h1,(E2 t #[op] i h).2⟩
theorem Xw.Rc{KJ KJ':Trace->Nat->Prop}{Sh:Nat->Prop}{dm dw:Nat}(h:Xw J Wg Sh KJ dm dw t)(hk:∀i,KJ t i->Knows t 0 i):Xw J Wg Sh KJ' dm dw t:=
 ⟨h.d0,h.dJ,h.norel,h.wg,λk a h1 b h2=>(h.all k a h1 b h2).elim .inl λx=>x.elim (λy=>.inl (hk k y)) λy=>.inr (.inr y)⟩
theorem eh{n:Nat}{mm:Mark}(h:mm=.disable∨mm=.enable∨(Wg<n∧(mm=.acquire (stA Wg)∨mm=.releaseMerge (stA Wg)∨mm=.read (smA Wg)∨mm=.write (smA Wg)))):(MemAct.ofEvent (mk mm)).low n:=by rcases h with rfl|rfl|⟨h,rfl|rfl|rfl|rfl⟩<;>first|trivial|exact h
set_option maxHeartbeats 4000000 in
theorem m4(hJ:J≠0)(Za:YM Wg Sst Wg){m1:MK}{n1:Nat}(hmm:(m=m1∧mf=n1)∨(m=.own∧m1=.kd))(h1:m1≠.own∧m1≠.fin)(X':dC m1 k)
  (IH:∀m' mf',(m'.dS<m1.dS∨(m'.dS=m1.dS∧m'.fuel mf'<m1.fuel n1))->dC m' k->∀{gs w sl t S V rk q},bC (Zd P ty J Wg c X (YM Wg Sst) Sst Rm Fin hFin Zf zf hZ w0 m' mf' k kf) gs w t S V rk q->Ends P Φ (crowd gs w sl) t)
  (h:bC (Zd P ty J Wg c X (YM Wg Sst) Sst Rm Fin hFin Zf zf hZ w0 m mf k kf) gs w t S V rk q) (hi:gs[0]? = some g) (XV:g.status=.running) (hm:QM P ty Wg Fin (k≠.gone) m1 n1 g) (hrk:rk 0=.leaf) :
  ∃m' ops,runT P (crowd gs w sl) 0=(.next m',ops)∧(Ends P Φ m' (t++ops)∨∃Yn,m'=crowd Yn w sl∧Yn.size=gs.size∧dc Yn<dc gs∧bC (Zd P ty J Wg c X (YM Wg Sst) Sst Rm Fin hFin Zf zf hZ w0 m mf k kf) Yn w (t++ops) S V rk q):=by
 have hz:w.heap[Wg]? = some (wgBlock ty (stV m1 k) (smV m1 k)):=by
  have:=(h.common Wg hZ).2;change _=ZY ty Wg zf m k Wg at this;unfold ZY at this;rw[Xl rfl] at this;rcases hmm with ⟨rfl,-⟩|⟨rfl,rfl⟩
  exact this;cases k<;>exact this
 have hI:ivP (jOf J k) Wg (YM Wg Sst) Rm m1.deaf (qB J m1 k) (ZO J Wg m1 k) (ExK J Wg c w0.heap.size Zf Sst k) S w.heap.size t:=by
  have:=h.trace;rcases hmm with ⟨rfl,-⟩|⟨rfl,rfl⟩
  exact this;cases k<;>exact this
 have X0:=hI.2.2.2.lt;have YF:=dX hz;have go:∀{m' mf' g' w' es},stepG P true g w=.go g' w' es->Aside Wg w w'->QM P ty Wg Fin (k≠.gone) m' mf' g'->w'.heap[Wg]? = some (wgBlock ty (stV m' k) (smV m' k))->
   ivP (jOf J k) Wg (YM Wg Sst) Rm m'.deaf (qB J m' k) (ZO J Wg m' k) (ExK J Wg c w0.heap.size Zf Sst k) S w.heap.size (t++MemOp.ofEvents 0 g.frame.fn g.frame.place es)->(m'.dS<m1.dS∨(m'.dS=m1.dS∧m'.fuel mf'<m1.fuel n1))->dC m' k->
   ∃m'' ops,runT P (crowd gs w sl) 0=(.next m'',ops)∧(Ends P Φ m'' (t++ops)∨∃Yn,m''=crowd Yn w sl∧Yn.size=gs.size∧dc Yn<dc gs∧bC (Zd P ty J Wg c X (YM Wg Sst) Sst Rm Fin hFin Zf zf hZ w0 m mf k kf) Yn w (t++ops) S V rk q):=by
  intro m' mf' g' w' es a1 a2 a3 a4 a5 a6 a7;obtain⟨Yn,V',rk',b1,b2⟩:=ON (sl:=sl) h hi a1 a2 a3 a4 a5;exact⟨_,_,b1,.inl (IH m' mf' a6 a7 b2)⟩
 have idle:∀{g' n'},stepG P true g w=.go g' w #[]->QM P ty Wg Fin (k≠.gone) m1 n' g'->m1.fuel n'<m1.fuel n1->∃m'' ops,runT P (crowd gs w sl) 0=(.next m'',ops)∧(Ends P Φ m'' (t++ops)∨∃Yn,m''=crowd Yn w sl∧Yn.size=gs.size∧dc Yn<dc gs∧bC (Zd P ty J Wg c X (YM Wg Sst) Sst Rm Fin hFin Zf zf hZ w0 m mf k kf) Yn w (t++ops) S V rk q):=
  λa1 a2 a3=>go a1 (Aside.refl _ _) a2 hz (by rw[ofEvents_none];simpa using hI) (.inr ⟨rfl,a3⟩) X'
 -- one operation of the library's
 have op1:∀{dm':Nat} {KJ':Trace->Nat->Prop} (e:Event),((∀b:Addr,MemAct.ofEvent e≠.mark (.release b))∧(MemAct.ofEvent e).low w.heap.size∧((MemAct.ofEvent e).touch? = none∨(∃a wr,MemAct.ofEvent e=.access ⟨.cell a,wr,true⟩∧a.block=Wg)∨∃a:Addr,(MemAct.ofEvent e=.mark (.read a)∨MemAct.ofEvent e=.mark (.write a))∧a.block=Wg))->
   deafBehind m1.deaf #[e]=dm'->(∀i,ZO J Wg m1 k t i->KJ' (t++#[({g:=0,fn:=g.frame.fn,pos:=g.frame.place,act:=.ofEvent e} : MemOp)]) i)->ivP (jOf J k) Wg (YM Wg Sst) Rm dm' (if jOf J k=0 then dm' else k.deaf) KJ' (ExK J Wg c w0.heap.size Zf Sst k) S w.heap.size (t++MemOp.ofEvents 0 g.frame.fn g.frame.place #[e]):=by
  intro dm' KJ' e he hd hkj;rw[ofEvents_one];have:=iv0 (op:={g:=0,fn:=g.frame.fn,pos:=g.frame.place,act:=.ofEvent e}) (dw:=k.deaf) (KJ':=KJ') hI Za rfl he hkj;have ed:deafStep 0 m1.deaf ({g:=0,fn:=g.frame.fn,pos:=g.frame.place,act:=.ofEvent e} : MemOp)=dm':=by
   rw[<-hd];have:=Deaf_own;obtain⟨loc,x,y⟩:=e;cases loc with
   | mark mm=>cases mm<;>simp[deafStep,MemAct.ofEvent,deafBehind]
   | cell a=>simp[deafStep,MemAct.ofEvent,deafBehind]
   | obj r=>cases x<;>cases y<;>simp[deafStep,MemAct.ofEvent,deafBehind]
   | output=>simp[deafStep,MemAct.ofEvent,deafBehind]
   | goroutines=>simp[deafStep,MemAct.ofEvent,deafBehind]
  rwa [ed] at this
 have Yr:∀(a:Addr) (x:Bool),a.block=Wg->((∀b:Addr,MemAct.ofEvent ⟨.cell a,x,true⟩≠.mark (.release b))∧(MemAct.ofEvent ⟨.cell a,x,true⟩).low w.heap.size∧((MemAct.ofEvent ⟨.cell a,x,true⟩).touch? = none∨(∃a' wr,MemAct.ofEvent ⟨.cell a,x,true⟩=.access ⟨.cell a',wr,true⟩∧a'.block=Wg)∨∃a':Addr,(MemAct.ofEvent ⟨.cell a,x,true⟩=.mark (.read a')∨MemAct.ofEvent ⟨.cell a,x,true⟩=.mark (.write a'))∧a'.block=Wg)):=λa x e=>
  ⟨by simp[MemAct.ofEvent],by show a.block<_;rw[e];exact X0,.inr (.inl ⟨a,x,rfl,e⟩)⟩
 cases m1 with
 | own=>exact P' rfl h1.1
 | fin=>exact P' rfl h1.2
 | kd=>
  rcases bY hm YF with ⟨-,g',Ya,n',hN⟩|⟨n',g',rfl,-,Ya,hN⟩
  exact go (m':=.ld) (mf':=n') (Ya w) (Aside.refl _ _) hN (by rw[hz];cases k<;>rfl) (op1 _ ⟨by simp[mk,MemAct.ofEvent],eh (Wg:=Wg) (.inl rfl),.inl rfl⟩ rfl (jN rfl)) (.inl (by decide)) (U6 X');exact idle Ya hN (by simp[MK.fuel])
 | ld=>
  rcases bY hm YF with ⟨-,⟨g0,hst0,n0,hN0⟩,⟨g',Ya,n',hN⟩⟩|⟨n',g',rfl,-,Ya,hN⟩
  by_cases hk:k=.gone;subst hk;exact go (m':=.ke) (mf':=n0) (hst0 w hz) (Aside.refl _ _) hN0 hz (op1 _ (Yr _ _ rfl) rfl (jN rfl)) (.inl (by decide)) trivial;have Ze:=Ee X' hk (.inl rfl);have hk2:=NG X' hk;rw[Ze.1,Ze.2] at hz;exact go (m':=.cas) (mf':=n') (Ya w hz) (Aside.refl _ _) hN (by rw[hz,hk2.1,hk2.2]) (op1 _ (Yr _ _ rfl) rfl (jN rfl)) (.inl (by decide)) (U5 X');exact idle Ya hN (by simp[MK.fuel])
 | cas=>
  rcases bY hm YF with ⟨-,⟨g0,hst0,n0,hN0⟩,⟨g',Ya,n',hN⟩⟩|⟨n',g',rfl,-,Ya,hN⟩
  by_cases hk:k=.gone;subst hk;exact go (m':=.ld2) (mf':=n') (Ya w hz) (Aside.refl _ _) hN hz (op1 _ (Yr _ _ rfl) rfl (jN rfl)) (.inl (by decide)) trivial;have Ze:=Ee X' hk (.inr rfl);have hk2:=RV X' hk;have Y4:=hz;rw[Ze.1,Ze.2] at Y4;have ZD:(w.setCell (stA Wg) (.int .u64 (KK+1))).heap[Wg]? = some (wgBlock ty (KK+1) 0):=Go.ConcR.WgAt.setSt Y4 _;refine go (m':=.wr) (mf':=n0) (hst0 w Y4) (Go.Conc.aside_setCell w (stA Wg) _) hN0 (by rw[ZD,hk2.1,hk2.2]) ?_ (.inl (by decide)) (Sr X');rw[ly];have b1:=op1 (rd (stA Wg)) (Yr _ _ rfl) rfl (jN (m':=.wr) rfl);rw[ofEvents_one] at b1;exact iv0 (dw:=k.deaf) b1 Za rfl (Yr (stA Wg) true rfl) (jN rfl);exact idle Ya hN (by simp[MK.fuel])
 | wr=>
  rcases bY hm YF with ⟨-,g',Ya,n',hN⟩|⟨n',g',rfl,-,Ya,hN⟩
  exact go (m':=.sem) (mf':=n') (Ya w) (Aside.refl _ _) (.inl hN) (by rw[hz];cases k<;>rfl) (op1 _ ⟨by simp[mk,MemAct.ofEvent],eh (Wg:=Wg) (.inr (.inr ⟨X0,by simp⟩)),.inr (.inr ⟨smA Wg,.inr rfl,rfl⟩)⟩ rfl (jN rfl)) (.inl (by decide)) (U4 X');exact idle Ya hN (by simp[MK.fuel])
 | sem=>
  rcases hm with hm|⟨-,g0,rfl,-⟩
  ·rcases bY hm YF with hA|⟨n',g',rfl,-,Ya,hN⟩
   ·obtain⟨-,hoff,hwait,g',Ya,n',hN⟩:=id hA;by_cases hk:k=.gone;subst hk;have ZD:(w.setCell (smA Wg) (.int .u32 0)).heap[Wg]? = some (wgBlock ty 0 0):=Go.ConcR.WgAt.setSm hz _;refine go (m':=.ld2) (mf':=n') (Ya w hz) (Go.Conc.aside_setCell w (smA Wg) _) hN ZD ?_ (.inl (by decide)) trivial;unfold semEvents;rw[nR];have b1:=op1 (mk .disable) ⟨by simp[mk,MemAct.ofEvent],eh (Wg:=Wg) (.inl rfl),.inl rfl⟩ rfl (jN (m':=.ld2) rfl);rw[ofEvents_one] at b1;have b2:=iv0 (op:={g:=0,fn:=g.frame.fn,pos:=g.frame.place,act:=.ofEvent ⟨.cell (smA Wg),false,true⟩}) (dw:=WK.gone.deaf) b1 Za rfl (Yr (smA Wg) false rfl) (jN (m':=.ld2) rfl);have b3:=iv0 (op:={g:=0,fn:=g.frame.fn,pos:=g.frame.place,act:=.ofEvent ⟨.cell (smA Wg),true,true⟩}) (dw:=WK.gone.deaf) b2 Za rfl (Yr (smA Wg) true rfl) (jN (m':=.ld2) rfl);exact iv0 (op:={g:=0,fn:=g.frame.fn,pos:=g.frame.place,act:=.ofEvent (mk .enable)}) (dw:=WK.gone.deaf) b3 Za rfl ⟨by simp[mk,MemAct.ofEvent],eh (Wg:=Wg) (.inr (.inl rfl)),.inl rfl⟩ (jN rfl);have hs0:=ND hk;have hst2:=hwait w ⟨_,by rw[hs0] at hz;exact hz⟩;have hme:m=.sem∧mf=n1:=(by rcases hmm with x|⟨-,x⟩;exact x;cases x);obtain⟨rfl,rfl⟩:=hme;have hrunT:=runT_crowd_go (P:=P) (sl:=sl) (i:=0) hi hst2;have hwk:gs.map (woken P g {g with status:=.blocked} w)=gs:=(by have:woken P g {g with status:=.blocked} w=id:=(by funext o;simp[woken]);rw[this,Array.map_id]);rw[hwk] at hrunT;refine⟨_,_,hrunT,.inr ⟨_,rfl,by simp,zC hi XV (by simp),?_⟩⟩;rw[ofEvents_none];have hc:=h.Ev (C':=Zd P ty J Wg c X (YM Wg Sst) Sst Rm Fin hFin Zf zf hZ w0 .sem mf k kf) (u:=#[]) (w':=w) (g':={g with status:=.blocked}) rfl (λj=>Iff.rfl) rfl (Ch:=λ_=>False) (λb hb=>hb.elim) (qQ.refl _ _) (.inl rfl) hi (r:=.leaf) ⟨λ_=>.inr ⟨hk,g,rfl,hA⟩,λe=>P' rfl e⟩ (λj y hj XW hy=>h.walk j y hj hy) (λb hb=>h.common b hb) (by simp) (by simpa using h.trace) λj hj=>⟨λ_=>h.still j hj,λ_=>rfl⟩
    have e1:upd rk 0 .leaf=rk:=(by funext j;by_cases e:j=0;subst e;rw[upd_same,hrk];rw[upd_ne rk _ e]);rw[e1] at hc;have e2:∀j,j=0∨j=jOf J k->(V j).at w.drawn=V j:=λj hj=>(by have:=(h.view j hj).drawn;show {V j with drawn:=w.drawn} = V j;rw[this]);exact⟨λj y hj hy=>(e2 j hj)▸hc.walk j y hj hy,λj hj=>(e2 j hj)▸hc.view j hj,hc.apart,hc.common,hc.old,hc.above,hc.trace,hc.still,hc.here,hc.base⟩
   exact idle Ya (.inl hN) (by simp[MK.fuel])
  cases XV
 | ld2=>
  obtain rfl:=je X' (.inl rfl);rcases bY hm YF with ⟨-,g',Ya,n',hN⟩|⟨n',g',rfl,-,Ya,hN⟩
  exact go (m':=.ke) (mf':=n') (Ya w hz) (Aside.refl _ _) hN hz (op1 _ (Yr _ _ rfl) rfl (jN rfl)) (.inl (by decide)) trivial;exact idle Ya hN (by simp[MK.fuel])
 | ke=>
  obtain rfl:=je X' (.inr (.inl rfl));rcases bY hm YF with ⟨-,g',Ya,n',hN⟩|⟨n',g',rfl,-,Ya,hN⟩
  exact go (m':=.aq) (mf':=n') (Ya w) (Aside.refl _ _) hN hz (op1 _ ⟨by simp[mk,MemAct.ofEvent],eh (Wg:=Wg) (.inr (.inl rfl)),.inl rfl⟩ rfl (jN rfl)) (.inl (by decide)) trivial;exact idle Ya hN (by simp[MK.fuel])
 | aq=>
  obtain rfl:=je X' (.inr (.inr (.inl rfl)));rcases bY hm YF with ⟨-,g',Ya,n',hN⟩|⟨n',g',rfl,-,Ya,hN⟩
  have b1:=op1 (KJ':=ZO J Wg .aq .gone) (mk (.acquire (stA Wg))) ⟨by simp[mk,MemAct.ofEvent],eh (Wg:=Wg) (.inr (.inr ⟨X0,by simp⟩)),.inl rfl⟩ rfl (jN rfl);refine go (m':=.fin) (mf':=n') (Ya w) (Aside.refl _ _) hN hz ⟨b1.1,b1.2.1.Rc λi hi=>?_,b1.2.2⟩ (.inl (by decide)) trivial;rw[ofEvents_one] at hi b1 ⊢;obtain⟨-,p,⟨y,y1,y2,y3⟩,hb⟩:=hi;have hlast:(t++#[({g:=0,fn:=g.frame.fn,pos:=g.frame.place,act:=.ofEvent (mk (.acquire (stA Wg)))} : MemOp)])[t.size]? = some {g:=0,fn:=g.frame.fn,pos:=g.frame.place,act:=.ofEvent (mk (.acquire (stA Wg)))}:=(by rw[Array.getElem?_append_right (F2 _)];simp);have hps:p≠t.size:=λe=>(by rw[e,hlast] at y1;obtain rfl:=Oi y1;simp[mk,MemAct.ofEvent] at y2);have hpl:p<t.size:=(by have:=lt_size_of_getElem? y1;simp at this;omega);have hkn:=ug (a:=stA Wg) hpl y1 hlast (.inr y2) rfl (λk=>b1.2.1.norel k _) y3 (by rw[deaf_old (F2 _)];exact hI.2.1.d0);exact Knows.of_before hb hkn;exact idle Ya hN (by simp[MK.fuel])
 | fini=>
  obtain rfl:=je X' (.inr (.inr (.inr (.inr rfl))));obtain⟨hm,hnf⟩:=hm;rcases bY hm YF with hF|⟨n',g',rfl,-,Ya,hN⟩
  exact P' hF hnf;have hx:Xw (jOf J .gone) Wg (YM Wg Sst) (ZO J Wg .fin .gone) MK.fin.deaf (qB J .fin .gone) t:=hI.2.1.Rc λi hi=>P' (hi.1 rfl) (by simp[MK.joined]);refine go (m':=.fin) (mf':=n') Ya (Aside.refl _ _) hN hz ?_ (.inr ⟨rfl,by simp[MK.fuel];omega⟩) trivial;rw[ofEvents_none,Array.append_empty];exact⟨hI.1,hx,hI.2.2⟩
end
end
end Go.Proofs.YtmdpdknpapjchaaGreatDoor
