/- Company, 27: the end of a phase with one worker runs to the join.. -/
import Derived.Test.YtgigkennhdolpaaGreatDoorM21
import Derived.Test.YtgigkennhdolpaaGreatDoorM20
namespace Go.Proofs.YtgigkennhdolpaaGreatDoor
open Go.Conc Go.ConcN
open Go.ConcN (sumTo upd sumTo_upd upd_ne upd_same)
open Go.ConcR (KK wgBlock WgAt stA smA rd wr mk DC0)
section
variable {P:Program}{C C':Cw P}{gs Vk:Array Goroutine}{w w' W:World}{t u:Trace}{S:Nat->Nat->Prop}{V:Nat->World}{rk rk':Nat->Rk}{q:Nat->Nat}{i j n d:Nat}{g g' g1 g2:Goroutine}{es:Array Event}{fn:FuncId}{pos:String}
theorem bz.quit(h:bz C gs w t S V rk q)(hw0:C'.w0=C.w0)(Vs:∀j,C'.act j↔C.act j∧j≠i)(hR:C'.R=C.R){Ch:Nat->Prop}(hch:∀b,Ch b->∀j,C.act j->S j b)(hw:pT Ch w w'){p p':Goroutine}(ha:C.act i)(hq:QuitsD P n d g')(hd:Deaf (t++MemOp.ofEvents i fn pos es) i=d)
  (walk:∀(j:Nat) (y:Goroutine),C.act j->j≠i->gs[j]? = some y->WS P (C'.Q j) (rk j) (woken P p p' w' y) (V j))
  (zb:∀b:Nat,C'.Zb b->(∀j,C.act j->S j b∨C.R j b)∧w'.heap[b]? = C'.z b)
  (iv:C'.Iv S w.heap.size (t++MemOp.ofEvents i fn pos es)) (still:∀j:Nat,C'.lib j->rk j=.leaf) :
  bz C' ((gs.map (woken P p p' w')).setIfInBounds i g') w' (t++MemOp.ofEvents i fn pos es) S (λj=>(V j).at w'.drawn) rk (upd q i n):=by
 have hg:∀op∈MemOp.ofEvents i fn pos es,op.g=i:=λop UQ=>by obtain⟨e,_,rfl⟩:=Go.Conc.mem_ofEvents UQ;rfl
 have UY:=h.here i ha;refine⟨λk y hk hy=>?_,λk hk=>?_,λa b ha hb UR x hx=>?_,λb hb=>⟨λk hk=>by rw[hR];exact(zb b hb).1 k ((Vs k).1 hk).1,(zb b hb).2⟩,λk y hk hy=>?_,λk hk=>?_,by rw[hw.size];exact iv,still,λk hk=>by simpa using h.here k ((Vs k).1 hk).1,by rw[hw0];exact⟨hw.os.trans h.base.os,hw.tape.trans h.base.tape,hw.output.trans h.base.output⟩⟩
 ·obtain⟨k1,k2⟩:=(Vs k).1 hk;rcases mo hy with ⟨e,_,_⟩|⟨e,x,hx,rfl⟩
  exact Up e k2;exact WS.at_ (Q:=C'.Q k) (λh r=>C'.later h r) (walk k x k1 k2 hx) _
 rw[hR];exact(h.view k ((Vs k).1 hk).1).Of hw λb hb=>hch b hb k ((Vs k).1 hk).1;rw[hR];exact h.apart a b ((Vs a).1 ha).1 ((Vs b).1 hb).1 UR x (by rw[<-hw.size];exact hx)
 ·rcases mo hy with ⟨e,_,rfl⟩|⟨e,x,hx,rfl⟩
  subst e;rw[upd_same,hd];exact hq;have WJ:¬C.act k:=λz=>hk ((Vs k).2 ⟨z,e⟩);rw[woken_quitsD (h.old k x WJ hx),upd_ne q n e,Deaf_other t (Ne.symm e) _ hg];exact h.old k x WJ hx
 rw[Deaf_other t (g':=i) (by simp at hk;omega) _ hg];exact h.above k (by simpa using hk)
theorem bz.Pg(h:bz C gs w t S V rk q)(hw0:C'.w0=C.w0)(Vs:∀j,C'.act j↔C.act j)(hR:C'.R=C.R)(walk:∀(j:Nat) (y:Goroutine),C.act j->gs[j]? = some y->WS P (C'.Q j) (rk' j) y (V j))
  (zb:∀b:Nat,C'.Zb b->(∀j,C.act j->S j b∨C.R j b)∧w.heap[b]? = C'.z b) (iv:C'.Iv S w.heap.size t) (still:∀j:Nat,C'.lib j->rk' j=.leaf):bz C' gs w t S V rk' q:=
 ⟨λk y hk hy=>walk k y ((Vs k).1 hk) hy,λk hk=>by rw[hR];exact h.view k ((Vs k).1 hk),λa b ha hb UR x hx=>by rw[hR];exact h.apart a b ((Vs a).1 ha) ((Vs b).1 hb) UR x hx,
  λb hb=>⟨λk hk=>by rw[hR];exact(zb b hb).1 k ((Vs k).1 hk),(zb b hb).2⟩,λk y hk hy=>h.old k y (λz=>hk ((Vs k).2 z)) hy,h.above,iv,still,λk hk=>h.here k ((Vs k).1 hk),by rw[hw0];exact h.base⟩
theorem xQ(hi:gs[i]? = some g)(hg:g.status=.running)(Zl:g'.status≠.running):cU (gs.setIfInBounds i g')<cU gs:=by
 obtain⟨UY,e⟩:=E'.1 hi;have key:∀(l:List Goroutine) (i:Nat),l[i]? = some g->((l.set i g').filter λg=>g.status==.running).length<(l.filter λg=>g.status==.running).length:=by
  intro l
  induction l with
  | nil=>intro i h;simp at h
  | cons a l ih=>
   intro i h;cases i with
   | zero=>
    simp only[List.getElem?_cons_zero,Option.some.injEq] at h;subst h;simp[List.filter_cons,hg,Zl]
   | succ i=>
    have:=ih i (by simpa using h);simp only[List.set_cons_succ,List.filter_cons];split<;>simp<;>omega
 have:=key gs.toList i (by simpa using hi);unfold cU;simpa using this
end
section
variable {P:Program}{ty:TypeId}{J Wg c:Nat}{X:Wq P ty Wg}{Sh Sst Rm:Nat->Prop}{Fin:Goroutine->Prop}{hFin:∀g,Fin g->g.status=.running}{Zf:Nat->Prop}{zf:Nat->Option Obj}{hZ:Zf Wg}{w0:World}{m m':MK}{mf mf':Nat}{k k':WK}{kf kf':Nat}
 {gs:Array Goroutine} {w w':World} {t:Trace} {S:Nat->Nat->Prop} {V:Nat->World} {rk:Nat->Rk} {q:Nat->Nat} {g g':Goroutine} {es:Array Event} {sl:Option (Nat×Nat)} {n d:Nat}
theorem uu(h:bz (Wc P ty J Wg c X Sh Sst Rm Fin hFin Zf zf hZ w0 m mf k kf) gs w t S V rk q)(hJ:J≠0)(YO:k.lib=true)(hi:gs[J]? = some g)(hs:stepG P false g w=.go g' w' es)(hw:Aside Wg w w')(YZ:QuitsD P n d g')(hd:Deaf (t++MemOp.ofEvents J g.frame.fn g.frame.place es) J=d)
  (hz:w'.heap[Wg]? = some (wgBlock ty (Zp m .gone) (Zg m .gone))) (hwk:m=.sem->mayWake P g=true) (hiv:ivP J Wg Sh Rm m.deaf k'.deaf (WR J Wg m .gone) (YJ J Wg c w0.heap.size Zf Sst .gone) S w.heap.size (t++MemOp.ofEvents J g.frame.fn g.frame.place es)) :
  ∃Vk V' q',runT P (crowd gs w sl) J=(.next (crowd Vk w' sl),MemOp.ofEvents J g.frame.fn g.frame.place es)∧bz (Wc P ty J Wg c X Sh Sst Rm Fin hFin Zf zf hZ w0 m mf .gone 0) Vk w' (t++MemOp.ofEvents J g.frame.fn g.frame.place es) S V' rk q':=by
 have hk:k≠.gone:=λe=>by rw[e] at YO;cases YO
 have ej:=sD (J:=J) hk;have Ys:(J==0)=false:=by simpa using hJ
 refine⟨_,_,_,runT_crowd_go hi (by rw[Ys];exact hs),h.quit (C':=Wc P ty J Wg c X Sh Sst Rm Fin hFin Zf zf hZ w0 m mf .gone 0) (i:=J) rfl (λj=>?_) rfl (Ch:=λb=>b=Wg) (λb hb j hj=>hb▸h.trace.2.2.1 j hj) (kh hw) (.inr ej.symm) YZ hd (λj y hj UR hy=>?_) (λb hb=>?_) ?_ λj hj=>?_⟩;show (j=0∨j=0)↔(j=0∨j=Xt J k)∧j≠J;rw[ej];constructor;rintro(rfl|rfl);exact⟨.inl rfl,λe=>hJ e.symm⟩;exact⟨.inl rfl,λe=>hJ e.symm⟩;rintro⟨x|x,y⟩;exact .inl x;exact Up x y
 ·have Y2:j=0:=(by rcases hj with x|x;exact x;exact Up (x.trans ej) UR);subst Y2;have hq:=h.walk 0 y hj hy;have hw2:=dL hz;cases hr:rk 0 with
  | leaf=>
   rw[hr] at hq;refine⟨λ_=>?_,λe=>Up rfl e⟩;have h1:=hq.1 rfl;rcases vQ hFin h1 hw2 with UU|⟨_,rfl,g0,rfl,h0⟩
   ·rw[woken_run UU];cases m<;>first|exact h1|skip
    rcases h1 with h1|⟨_,g0,rfl,_⟩
    exact .inl h1;exact Up UU (by simp)
   have:woken P g g' w' ({g0 with status:=.blocked} : Goroutine)=g0:=(by have a2:(g'.status != .blocked&&g'.status != .waiting)=true:=(by rcases YZ.status with e|e<;>rw[e]<;>rfl);unfold woken;rw[hwk rfl,Bool.true_and,Uw a2];exact again_blocked h0.2.1 h0.1 w');rw[this];exact .inl (bu h0)
  | mk f=>
   rw[hr] at hq;rw[woken_run hq.1];have hm:m=.own:=(by by_cases e:m=.own;exact e;have:=h.still 0 (.inl ⟨rfl,e⟩);rw[hr] at this;cases this);subst hm;have e2:(Wc P ty J Wg c X Sh Sst Rm Fin hFin Zf zf hZ w0 .own mf k kf).Q 0=(Wc P ty J Wg c X Sh Sst Rm Fin hFin Zf zf hZ w0 .own mf .gone 0).Q 0:=by
    funext a b;show ((0=0->oI P true ty Wg Fin a)∧(0≠0->QW P ty Wg X.R X.D k kf a b))=((0=0->oI P true ty Wg Fin a)∧(0≠0->True))
    simp
   rw[<-e2];exact hq
 ·refine⟨(h.common b hb).1,?_⟩;show _=Xf ty Wg zf m .gone b;unfold Xf;by_cases e:b=Wg;rw[Uw e,e];exact hz;rw[Uv e,hw.block b e];have:=(h.common b hb).2;change _=Xf ty Wg zf m k b at this;unfold Xf at this
  rwa [Uv e] at this
 exact hiv.alone;rcases hj with e|⟨-,-,e⟩
 exact h.still j (.inl e);cases e
theorem zu(Ys:J≠0)(h:bz (Wc P ty J Wg c X Sh Sst Rm Fin hFin Zf zf hZ w0 m mf k kf) gs w t S V rk q):(∀g∈gs,awake g)∧∃(i:Nat) (g:Goroutine),gs[i]? = some g∧g.status=.running:=by
 have hw:WgLive ty Wg w:=dL (ty:=ty) (Wg:=Wg) (by
  have:=(h.common Wg hZ).2;change _=Xf ty Wg zf m k Wg at this;unfold Xf at this
  rwa [Uw rfl] at this)
 have h0:∀y,gs[0]? = some y->y.status=.running∨(k≠.gone∧y.status=.blocked):=λy hy=>by
  have hq:=h.walk 0 y (.inl rfl) hy;cases hr:rk 0 with
  | leaf=>
   rw[hr] at hq;rcases vQ hFin (hq.1 rfl) hw with x|⟨x,_,g0,rfl,_⟩
   exact .inl x;exact .inr ⟨x,rfl⟩
  | mk f=>rw[hr] at hq;exact .inl hq.1
 have hJ:∀j y,j≠0->j=Xt J k->gs[j]? = some y->y.status=.running:=λj y UR hj hy=>by
  obtain⟨e,hk⟩:=pg (J:=J) (k:=k) (by rw[<-hj];exact UR);have hq:=h.walk j y (.inr hj) hy;cases hr:rk j with
  | leaf=>rw[hr] at hq;exact AT X.runR X.runD (hq.2 UR) hk hw
  | mk f=>rw[hr] at hq;exact hq.1
 refine⟨λy hy=>?_,?_⟩;obtain⟨j,UY,rfl⟩:=Array.mem_iff_getElem.1 hy;have hy':gs[j]? = some gs[j]:=Uj UY;by_cases e0:j=0;subst e0;exact awake_of ((h0 _ hy').imp id λx=>.inl x.2);by_cases e1:j=Xt J k;exact awake_of (.inl (hJ j _ e0 e1 hy'));exact awake_of ((h.old j _ (λx=>x.elim e0 e1) hy').status.imp id .inr);have hy:gs[0]? = some (gs[0]'(h.here 0 (.inl rfl))):=Uj _;rcases h0 _ hy with x|⟨x,_⟩
 exact⟨0,_,hy,x⟩;have e:=sD (J:=J) x;have UY:=h.here J (.inr e.symm);exact⟨J,_,Uj UY,hJ J _ Ys e.symm (Uj UY)⟩
end
end Go.Proofs.YtgigkennhdolpaaGreatDoor
namespace Go.Proofs.YtgigkennhdolpaaGreatDoor
open Go.Conc
def frz:Obj->Obj
 | .cells cs t _=>.cells cs t (0,cs.size)
 | o=>o
open Classical in
noncomputable def maskAt(S R:Nat->Prop)(b:Nat)(o:Obj):Obj:=if S b then .cells #[] 0 (0,0) else if R b then frz o else o
noncomputable def mask(S R:Nat->Prop)(w:World):World:={w with heap:=w.heap.mapIdx (maskAt S R)}
section
variable {S R:Nat->Prop}{w:World}
theorem lI(b:Nat):(mask S R w).heap[b]? = (w.heap[b]?).map (maskAt S R b):=by show (w.heap.mapIdx (maskAt S R))[b]? = _;simp[Array.getElem?_mapIdx]
theorem uN{b:Nat}(hs:¬S b)(hr:¬R b):(mask S R w).heap[b]? = w.heap[b]?:=by
 rw[lI];cases w.heap[b]? with
 | none=>rfl
 | some o=>show some (maskAt S R b o)=some o;unfold maskAt;rw[Uv hs,Uv hr]
theorem jL(hp:∀(b:Nat) (o:Obj),¬S b->w.heap[b]? = some o->Obj.plain o)(hs:∀b:Nat,S b->b<w.heap.size)(hr:∀b:Nat,¬S b->R b->∃cs t fr,w.heap[b]? = some (.cells cs t fr)):View S R w (mask S R w):=by refine⟨rfl,rfl,rfl,rfl,by simp[mask],λb h1 h2=>(uN h1 h2).symm,λb h1 h2=>?_,λb h1=>?_,λb o h1=>?_⟩;obtain⟨cs,t,fr,e⟩:=hr b h1 h2;refine⟨cs,t,fr,cs.size,e,?_,I' _⟩;rw[lI,e];show some (maskAt S R b _)=_;unfold maskAt;rw[Uv h1,Uw h2];rfl;have hl:=hs b h1;rw[lI,Uj hl];show some (maskAt S R b _)=_;unfold maskAt;rw[Uw h1];rw[lI] at h1;obtain⟨o',e,rfl⟩:=Option.map_eq_some_iff.1 h1;unfold maskAt;split;trivial;rename_i h2;have:=hp b o' h2 e;split;cases o'<;>exact this;exact this
theorem EP{a:Addr}(hs:¬S a.block):(mask S R w).cell? a=w.cell? a:=by
 unfold World.cell?;rw[lI];cases w.heap[a.block]? with
 | none=>rfl
 | some o=>
  show (match some (maskAt S R a.block o) with|some (.cells c _ _)=>if a.spot.isSome then none else c[a.off]?|_=>none)=_;unfold maskAt;rw[Uv hs];split;rename_i e;by_cases hr:R a.block;rw[Uw hr] at e;cases o<;>simp_all [frz];rw[Uv hr] at e;obtain rfl:=Oi e;rfl;rename_i e;by_cases hr:R a.block;rw[Uw hr] at e;cases o<;>simp_all [frz];rw[Uv hr] at e;cases o<;>simp_all
end
end Go.Proofs.YtgigkennhdolpaaGreatDoor
namespace Go.Proofs.YtgigkennhdolpaaGreatDoor
open Go.Conc Go.ConcN
open Go.ConcN (sumTo upd sumTo_upd upd_ne upd_same)
open Go.ConcR (KK wgBlock WgAt stA smA rd wr mk DC0)
section
variable {P:Program}{ty:TypeId}{J Wg c:Nat}{X:Wq P ty Wg}{Sst Rm:Nat->Prop}{Fin:Goroutine->Prop}{hFin:∀g,Fin g->g.status=.running}{Zf:Nat->Prop}{zf:Nat->Option Obj}{hZ:Zf Wg}{w0:World}{m m':MK}{mf mf':Nat}{k k':WK}{kf kf':Nat}
 {gs:Array Goroutine} {w w':World} {t:Trace} {S:Nat->Nat->Prop} {V:Nat->World} {rk:Nat->Rk} {q:Nat->Nat} {g g':Goroutine} {es:Array Event} {sl:Option (Nat×Nat)} {Φ:Value->World->Prop} {w00:World} {S0:Nat->Prop}
def VF(Wg:Nat)(Sst:Nat->Prop)(b:Nat):Prop:=Sst b∨b=Wg
theorem II(Yr:∀b:Nat,S0 b->Sst b∧zf b=w00.heap[b]?∧b≠Wg)(ZA:∀b:Nat,Sst b->S0 b∨w00.heap.size<=b)(Zm:w00.heap.size<=Wg)(hpl:∀(b:Nat) (o:Obj),Zf b->¬VF Wg Sst b->zf b=some o->Obj.plain o)
  (HJ:∀g,Fin g->∀w W':World,(∀b:Nat,Zf b->b≠Wg->w.heap[b]? = zf b)->Bas w0 w->View (VF Wg Sst) (λ_=>False) w W'->Er P Φ w00 S0 g W')
  (h:bz (Wc P ty J Wg c X (VF Wg Sst) Sst Rm Fin hFin Zf zf hZ w0 .fin mf .gone kf) gs w t S V rk q) (hg:gs[0]? = some g) (hF:Fin g):Ends P Φ (crowd gs w sl) t:=by
 obtain⟨i1,i2,i3,i4,i5,i6⟩:=h.trace;have hz:∀b:Nat,Zf b->b≠Wg->w.heap[b]? = zf b:=λb hb UR=>by
  have:=(h.common b hb).2;change _=Xf ty Wg zf .fin .gone b at this;unfold Xf at this
  rwa [Uv UR] at this
 have YL:=h.view 0 (.inl rfl);have WO:∀b:Nat,S 0 b->b<w.heap.size:=λb hb=>by rw[YL.size];exact YL.low (.inl hb)
 have hv:=jL (S:=VF Wg Sst) (R:=λ_=>False) (w:=w) (λb o hb ho=>by
  by_cases hs:S 0 b;have UR:b≠Wg:=λe=>hb (.inr e);exact hpl b o (i4 b hs) hb (by rw[<-hz b (i4 b hs) UR];exact ho)
  ·by_cases hr:Rm b;obtain⟨cs,t,fr,hi,e,-,-⟩:=YL.lent b hs hr;rw[ho] at e;obtain rfl:=Oi e;trivial
   ·exact YL.plain b o (by rw[<-YL.same b hs hr];exact ho)) (λb hb=>by
  rcases hb with hb|rfl;exact WO b (i5 b hb)
  ·exact i6) (λb _ hb=>hb.elim)
 refine HJ g hF w _ hz h.base hv _ (Rv.refl _) (Nat.le_trans (Nat.le_trans Zm (Nat.le_of_lt i6)) (Nat.le_of_eq hv.size)) _ w gs sl t hv ⟨λb hb=>?_,λb hb=>?_⟩ hg ⟨⟨q,⟨λj y hj hy=>h.old j y (λx=>by rcases x with x|x<;>exact Up (show j=0 from x) (by omega)) hy,h.above⟩⟩,⟨λl=>∃a:Addr,l=.cell a∧VF Wg Sst a.block,⟨i1.clean,λk a hk hm=>?_,λk g hg UR hc=>?_,i2.d0,i1.seen⟩,λl hl=>hl⟩,i2.norel⟩;obtain⟨a1,a2,a3⟩:=Yr b hb;exact⟨.inl a1,by rw[hz b (i4 b (i5 b a1)) a3];exact a2⟩;rcases hb with hb|rfl;exact ZA b hb;exact .inr Zm
 ·obtain⟨b,hb⟩:=nN hm;rcases i2.all k a hk b hb with x|x|⟨x1,⟨ad,x2⟩,x3,-⟩
  exact .inl x;exact Up (x.1 rfl) (by simp[MK.joined]);refine .inr ⟨⟨ad,x2,?_⟩,x1⟩;rw[tC x2 hb];exact x3
 obtain⟨x,hx,hm,-⟩:=id hc;obtain⟨b,hb⟩:=nN hm;rcases i2.all k x hx b hb with y|y|⟨-,-,-,y⟩
 obtain⟨p,z,h1,h2,h3⟩:=y;refine⟨p,by simp[Trace.g?,h1,h2],?_⟩;rcases h3 with rfl|h3;have:t.g? k=some 0:=(by simp[Trace.g?,h1,h2]);rw[this] at hg;exact Up (Oi hg).symm UR;exact h3;exact Up (y.1 rfl) (by simp[MK.joined]);exact y g hg UR hc
theorem iz(h:db m k)(hm:m=.ld2∨m=.ke∨m=.aq∨m=.fin∨m=.fini):k=.gone:=by cases k<;>first|rfl|(exfalso;rcases hm with rfl|rfl|rfl|rfl|rfl<;>simp[db] at h)
theorem Ce(Vg:db m k)(hk:k≠.gone)(hm:m=.ld∨m=.cas):Zp m k=KK∧Zg m k=0:=by rcases hm with rfl|rfl<;>cases k<;>first|exact⟨rfl,rfl⟩|exact Up rfl hk|(exfalso;simp[db] at Vg)
theorem K8(Vg:db .ld k)(hk:k≠.gone):Zp .cas k=KK∧Zg .cas k=0:=by cases k<;>first|exact⟨rfl,rfl⟩|exact Up rfl hk|(exfalso;simp[db] at Vg)
theorem O3(Vg:db .cas k)(hk:k≠.gone):Zp .wr k=KK+1∧Zg .wr k=0:=by cases k<;>first|exact⟨rfl,rfl⟩|exact Up rfl hk|(exfalso;simp[db] at Vg)
theorem Sd(Vg:db .kd k):db .ld k:=by cases k<;>first|trivial|(exfalso;simp[db] at Vg;done)|simp[db]
theorem Sc(Vg:db .ld k):db .cas k:=by cases k<;>first|trivial|(exfalso;simp[db] at Vg;done)|simp[db]
theorem Pw(Vg:db .cas k):db .wr k:=by cases k<;>first|trivial|(exfalso;simp[db] at Vg;done)|simp[db]
theorem Sb(Vg:db .wr k):db .sem k:=by cases k<;>first|trivial|(exfalso;simp[db] at Vg;done)|simp[db]
theorem K6(hk:k≠.gone):Zg .sem k=0:=by cases k<;>first|rfl|exact Up rfl hk
theorem kF(i:Nat)(fn:FuncId)(pos:String)(e1 e2:Event):t++MemOp.ofEvents i fn pos #[e1,e2]=t++#[{g:=i,fn,pos,act:=.ofEvent e1}]++#[{g:=i,fn,pos,act:=.ofEvent e2}]:=by rw[ofEvents_eq];apply Array.ext';simp
theorem ofEvents_one(i:Nat)(fn:FuncId)(pos:String)(e1:Event):t++MemOp.ofEvents i fn pos #[e1]=t++#[{g:=i,fn,pos,act:=.ofEvent e1}]:=by rw[ofEvents_eq];apply Array.ext';simp
theorem mY(i:Nat)(fn:FuncId)(pos:String)(e1 e2 e3 e4:Event):t++MemOp.ofEvents i fn pos #[e1,e2,e3,e4]=t++#[{g:=i,fn,pos,act:=.ofEvent e1}]++#[{g:=i,fn,pos,act:=.ofEvent e2}]++#[{g:=i,fn,pos,act:=.ofEvent e3}]++#[{g:=i,fn,pos,act:=.ofEvent e4}]:=by rw[ofEvents_eq];apply Array.ext';simp
theorem jf(h1:m'.joined=false){op:MemOp} : ∀i,WR J Wg m k t i->WR J Wg m' k (t++#[op]) i:=λi h=>⟨λ_=>h1,(C3 t #[op] i h).2⟩
theorem Xw.Ow{KJ KJ':Trace->Nat->Prop}{Sh:Nat->Prop}{dm dw:Nat}(h:Xw J Wg Sh KJ dm dw t)(hk:∀i,KJ t i->Knows t 0 i):Xw J Wg Sh KJ' dm dw t:=
 ⟨h.d0,h.dJ,h.norel,h.wg,λk a h1 b h2=>(h.all k a h1 b h2).elim .inl λx=>x.elim (λy=>.inl (hk k y)) λy=>.inr (.inr y)⟩
theorem dQ{n:Nat}{mm:Mark}(h:mm=.disable∨mm=.enable∨(Wg<n∧(mm=.acquire (stA Wg)∨mm=.releaseMerge (stA Wg)∨mm=.read (smA Wg)∨mm=.write (smA Wg)))):(MemAct.ofEvent (mk mm)).low n:=by rcases h with rfl|rfl|⟨h,rfl|rfl|rfl|rfl⟩<;>first|trivial|exact h
set_option maxHeartbeats 4000000 in
theorem mh(hJ:J≠0)(V8:VF Wg Sst Wg){m1:MK}{n1:Nat}(hmm:(m=m1∧mf=n1)∨(m=.own∧m1=.kd))(h1:m1≠.own∧m1≠.fin)(Vg:db m1 k)
  (IH:∀m' mf',(m'.dF<m1.dF∨(m'.dF=m1.dF∧m'.fuel mf'<m1.fuel n1))->db m' k->∀{gs w sl t S V rk q},bz (Wc P ty J Wg c X (VF Wg Sst) Sst Rm Fin hFin Zf zf hZ w0 m' mf' k kf) gs w t S V rk q->Ends P Φ (crowd gs w sl) t)
  (h:bz (Wc P ty J Wg c X (VF Wg Sst) Sst Rm Fin hFin Zf zf hZ w0 m mf k kf) gs w t S V rk q) (hi:gs[0]? = some g) (UU:g.status=.running) (hm:QM P ty Wg Fin (k≠.gone) m1 n1 g) (hrk:rk 0=.leaf) :
  ∃m' ops,runT P (crowd gs w sl) 0=(.next m',ops)∧(Ends P Φ m' (t++ops)∨∃Vk,m'=crowd Vk w sl∧Vk.size=gs.size∧cU Vk<cU gs∧bz (Wc P ty J Wg c X (VF Wg Sst) Sst Rm Fin hFin Zf zf hZ w0 m mf k kf) Vk w (t++ops) S V rk q):=by
 have hz:w.heap[Wg]? = some (wgBlock ty (Zp m1 k) (Zg m1 k)):=by
  have:=(h.common Wg hZ).2;change _=Xf ty Wg zf m k Wg at this;unfold Xf at this;rw[Uw rfl] at this;rcases hmm with ⟨rfl,-⟩|⟨rfl,rfl⟩
  exact this;cases k<;>exact this
 have hI:ivP (Xt J k) Wg (VF Wg Sst) Rm m1.deaf (pE J m1 k) (WR J Wg m1 k) (YJ J Wg c w0.heap.size Zf Sst k) S w.heap.size t:=by
  have:=h.trace;rcases hmm with ⟨rfl,-⟩|⟨rfl,rfl⟩
  exact this;cases k<;>exact this
 have UY:=hI.2.2.2.lt;have VA:=dL hz;have go:∀{m' mf' g' w' es},stepG P true g w=.go g' w' es->Aside Wg w w'->QM P ty Wg Fin (k≠.gone) m' mf' g'->w'.heap[Wg]? = some (wgBlock ty (Zp m' k) (Zg m' k))->
   ivP (Xt J k) Wg (VF Wg Sst) Rm m'.deaf (pE J m' k) (WR J Wg m' k) (YJ J Wg c w0.heap.size Zf Sst k) S w.heap.size (t++MemOp.ofEvents 0 g.frame.fn g.frame.place es)->(m'.dF<m1.dF∨(m'.dF=m1.dF∧m'.fuel mf'<m1.fuel n1))->db m' k->
   ∃XK ops,runT P (crowd gs w sl) 0=(.next XK,ops)∧(Ends P Φ XK (t++ops)∨∃Vk,XK=crowd Vk w sl∧Vk.size=gs.size∧cU Vk<cU gs∧bz (Wc P ty J Wg c X (VF Wg Sst) Sst Rm Fin hFin Zf zf hZ w0 m mf k kf) Vk w (t++ops) S V rk q):=by
  intro m' mf' g' w' es a1 a2 a3 a4 a5 a6 a7;obtain⟨Vk,V',rk',b1,b2⟩:=L0 (sl:=sl) h hi a1 a2 a3 a4 a5;exact⟨_,_,b1,.inl (IH m' mf' a6 a7 b2)⟩
 have idle:∀{g' n'},stepG P true g w=.go g' w #[]->QM P ty Wg Fin (k≠.gone) m1 n' g'->m1.fuel n'<m1.fuel n1->∃XK ops,runT P (crowd gs w sl) 0=(.next XK,ops)∧(Ends P Φ XK (t++ops)∨∃Vk,XK=crowd Vk w sl∧Vk.size=gs.size∧cU Vk<cU gs∧bz (Wc P ty J Wg c X (VF Wg Sst) Sst Rm Fin hFin Zf zf hZ w0 m mf k kf) Vk w (t++ops) S V rk q):=
  λa1 a2 a3=>go a1 (Aside.refl _ _) a2 hz (by rw[ofEvents_none];simpa using hI) (.inr ⟨rfl,a3⟩) Vg
 -- one operation of X5 library's
 have Zr:∀{dm':Nat} {KJ':Trace->Nat->Prop} (e:Event),((∀b:Addr,MemAct.ofEvent e≠.mark (.release b))∧(MemAct.ofEvent e).low w.heap.size∧((MemAct.ofEvent e).touch? = none∨(∃a wr,MemAct.ofEvent e=.access ⟨.cell a,wr,true⟩∧a.block=Wg)∨∃a:Addr,(MemAct.ofEvent e=.mark (.read a)∨MemAct.ofEvent e=.mark (.write a))∧a.block=Wg))->
   deafBehind m1.deaf #[e]=dm'->(∀i,WR J Wg m1 k t i->KJ' (t++#[({g:=0,fn:=g.frame.fn,pos:=g.frame.place,act:=.ofEvent e} : MemOp)]) i)->ivP (Xt J k) Wg (VF Wg Sst) Rm dm' (if Xt J k=0 then dm' else k.deaf) KJ' (YJ J Wg c w0.heap.size Zf Sst k) S w.heap.size (t++MemOp.ofEvents 0 g.frame.fn g.frame.place #[e]):=by
  intro dm' KJ' e he hd hkj;rw[ofEvents_one];have:=iv0 (op:={g:=0,fn:=g.frame.fn,pos:=g.frame.place,act:=.ofEvent e}) (dw:=k.deaf) (KJ':=KJ') hI V8 rfl he hkj;have ed:deafStep 0 m1.deaf ({g:=0,fn:=g.frame.fn,pos:=g.frame.place,act:=.ofEvent e} : MemOp)=dm':=by
   rw[<-hd];have:=Deaf_own;obtain⟨loc,x,y⟩:=e;cases loc with
   | mark mm=>cases mm<;>simp[deafStep,MemAct.ofEvent,deafBehind]
   | cell a=>simp[deafStep,MemAct.ofEvent,deafBehind]
   | obj r=>cases x<;>cases y<;>simp[deafStep,MemAct.ofEvent,deafBehind]
   | output=>simp[deafStep,MemAct.ofEvent,deafBehind]
   | goroutines=>simp[deafStep,MemAct.ofEvent,deafBehind]
  rwa [ed] at this
 have Vo:∀(a:Addr) (x:Bool),a.block=Wg->((∀b:Addr,MemAct.ofEvent ⟨.cell a,x,true⟩≠.mark (.release b))∧(MemAct.ofEvent ⟨.cell a,x,true⟩).low w.heap.size∧((MemAct.ofEvent ⟨.cell a,x,true⟩).touch? = none∨(∃a' wr,MemAct.ofEvent ⟨.cell a,x,true⟩=.access ⟨.cell a',wr,true⟩∧a'.block=Wg)∨∃a':Addr,(MemAct.ofEvent ⟨.cell a,x,true⟩=.mark (.read a')∨MemAct.ofEvent ⟨.cell a,x,true⟩=.mark (.write a'))∧a'.block=Wg)):=λa x e=>
  ⟨by simp[MemAct.ofEvent],by show a.block<_;rw[e];exact UY,.inr (.inl ⟨a,x,rfl,e⟩)⟩
 cases m1 with
 | own=>exact Up rfl h1.1
 | fin=>exact Up rfl h1.2
 | kd=>
  rcases bS hm VA with ⟨-,g',U4,n',hN⟩|⟨n',g',rfl,-,U4,hN⟩
  exact go (m':=.ld) (mf':=n') (U4 w) (Aside.refl _ _) hN (by rw[hz];cases k<;>rfl) (Zr _ ⟨by simp[mk,MemAct.ofEvent],dQ (Wg:=Wg) (.inl rfl),.inl rfl⟩ rfl (jf rfl)) (.inl (by decide)) (Sd Vg);exact idle U4 hN (by simp[MK.fuel])
 | ld=>
  rcases bS hm VA with ⟨-,⟨g0,hst0,n0,hN0⟩,⟨g',U4,n',hN⟩⟩|⟨n',g',rfl,-,U4,hN⟩
  by_cases hk:k=.gone;subst hk;exact go (m':=.ke) (mf':=n0) (hst0 w hz) (Aside.refl _ _) hN0 hz (Zr _ (Vo _ _ rfl) rfl (jf rfl)) (.inl (by decide)) trivial;have Wi:=Ce Vg hk (.inl rfl);have X1:=K8 Vg hk;rw[Wi.1,Wi.2] at hz;exact go (m':=.cas) (mf':=n') (U4 w hz) (Aside.refl _ _) hN (by rw[hz,X1.1,X1.2]) (Zr _ (Vo _ _ rfl) rfl (jf rfl)) (.inl (by decide)) (Sc Vg);exact idle U4 hN (by simp[MK.fuel])
 | cas=>
  rcases bS hm VA with ⟨-,⟨g0,hst0,n0,hN0⟩,⟨g',U4,n',hN⟩⟩|⟨n',g',rfl,-,U4,hN⟩
  by_cases hk:k=.gone;subst hk;exact go (m':=.ld2) (mf':=n') (U4 w hz) (Aside.refl _ _) hN hz (Zr _ (Vo _ _ rfl) rfl (jf rfl)) (.inl (by decide)) trivial;have Wi:=Ce Vg hk (.inr rfl);have X1:=O3 Vg hk;have V5:=hz;rw[Wi.1,Wi.2] at V5;have WC:(w.setCell (stA Wg) (.int .u64 (KK+1))).heap[Wg]? = some (wgBlock ty (KK+1) 0):=Go.ConcR.WgAt.setSt V5 _;refine go (m':=.wr) (mf':=n0) (hst0 w V5) (Go.Conc.aside_setCell w (stA Wg) _) hN0 (by rw[WC,X1.1,X1.2]) ?_ (.inl (by decide)) (Pw Vg);rw[kF];have b1:=Zr (rd (stA Wg)) (Vo _ _ rfl) rfl (jf (m':=.wr) rfl);rw[ofEvents_one] at b1;exact iv0 (dw:=k.deaf) b1 V8 rfl (Vo (stA Wg) true rfl) (jf rfl);exact idle U4 hN (by simp[MK.fuel])
 | wr=>
  rcases bS hm VA with ⟨-,g',U4,n',hN⟩|⟨n',g',rfl,-,U4,hN⟩
  exact go (m':=.sem) (mf':=n') (U4 w) (Aside.refl _ _) (.inl hN) (by rw[hz];cases k<;>rfl) (Zr _ ⟨by simp[mk,MemAct.ofEvent],dQ (Wg:=Wg) (.inr (.inr ⟨UY,by simp⟩)),.inr (.inr ⟨smA Wg,.inr rfl,rfl⟩)⟩ rfl (jf rfl)) (.inl (by decide)) (Sb Vg);exact idle U4 hN (by simp[MK.fuel])
 | sem=>
  rcases hm with hm|⟨-,g0,rfl,-⟩
  ·rcases bS hm VA with hA|⟨n',g',rfl,-,U4,hN⟩
   ·obtain⟨-,hoff,ZG,g',U4,n',hN⟩:=id hA;by_cases hk:k=.gone;subst hk;have WC:(w.setCell (smA Wg) (.int .u32 0)).heap[Wg]? = some (wgBlock ty 0 0):=Go.ConcR.WgAt.setSm hz _;refine go (m':=.ld2) (mf':=n') (U4 w hz) (Go.Conc.aside_setCell w (smA Wg) _) hN WC ?_ (.inl (by decide)) trivial;unfold semEvents;rw[mY];have b1:=Zr (mk .disable) ⟨by simp[mk,MemAct.ofEvent],dQ (Wg:=Wg) (.inl rfl),.inl rfl⟩ rfl (jf (m':=.ld2) rfl);rw[ofEvents_one] at b1;have b2:=iv0 (op:={g:=0,fn:=g.frame.fn,pos:=g.frame.place,act:=.ofEvent ⟨.cell (smA Wg),false,true⟩}) (dw:=WK.gone.deaf) b1 V8 rfl (Vo (smA Wg) false rfl) (jf (m':=.ld2) rfl);have b3:=iv0 (op:={g:=0,fn:=g.frame.fn,pos:=g.frame.place,act:=.ofEvent ⟨.cell (smA Wg),true,true⟩}) (dw:=WK.gone.deaf) b2 V8 rfl (Vo (smA Wg) true rfl) (jf (m':=.ld2) rfl);exact iv0 (op:={g:=0,fn:=g.frame.fn,pos:=g.frame.place,act:=.ofEvent (mk .enable)}) (dw:=WK.gone.deaf) b3 V8 rfl ⟨by simp[mk,MemAct.ofEvent],dQ (Wg:=Wg) (.inr (.inl rfl)),.inl rfl⟩ (jf rfl);have YN:=K6 hk;have hst2:=ZG w ⟨_,by rw[YN] at hz;exact hz⟩;have hme:m=.sem∧mf=n1:=(by rcases hmm with x|⟨-,x⟩;exact x;cases x);obtain⟨rfl,rfl⟩:=hme;have Yo:=runT_crowd_go (P:=P) (sl:=sl) (i:=0) hi hst2;have hwk:gs.map (woken P g {g with status:=.blocked} w)=gs:=(by have:woken P g {g with status:=.blocked} w=id:=(by funext o;simp[woken]);rw[this,Array.map_id]);rw[hwk] at Yo;refine⟨_,_,Yo,.inr ⟨_,rfl,by simp,xQ hi UU (by simp),?_⟩⟩;rw[ofEvents_none];have hc:=h.Cv (C':=Wc P ty J Wg c X (VF Wg Sst) Sst Rm Fin hFin Zf zf hZ w0 .sem mf k kf) (u:=#[]) (w':=w) (g':={g with status:=.blocked}) rfl (λj=>Iff.rfl) rfl (Ch:=λ_=>False) (λb hb=>hb.elim) (pT.refl _ _) (.inl rfl) hi (r:=.leaf) ⟨λ_=>.inr ⟨hk,g,rfl,hA⟩,λe=>Up rfl e⟩ (λj y hj UR hy=>h.walk j y hj hy) (λb hb=>h.common b hb) (by simp) (by simpa using h.trace) λj hj=>⟨λ_=>h.still j hj,λ_=>rfl⟩
    have e1:upd rk 0 .leaf=rk:=(by funext j;by_cases e:j=0;subst e;rw[upd_same,hrk];rw[upd_ne rk _ e]);rw[e1] at hc;have e2:∀j,j=0∨j=Xt J k->(V j).at w.drawn=V j:=λj hj=>(by have:=(h.view j hj).drawn;show {V j with drawn:=w.drawn} = V j;rw[this]);exact⟨λj y hj hy=>(e2 j hj)▸hc.walk j y hj hy,λj hj=>(e2 j hj)▸hc.view j hj,hc.apart,hc.common,hc.old,hc.above,hc.trace,hc.still,hc.here,hc.base⟩
   exact idle U4 (.inl hN) (by simp[MK.fuel])
  cases UU
 | ld2=>
  obtain rfl:=iz Vg (.inl rfl);rcases bS hm VA with ⟨-,g',U4,n',hN⟩|⟨n',g',rfl,-,U4,hN⟩
  exact go (m':=.ke) (mf':=n') (U4 w hz) (Aside.refl _ _) hN hz (Zr _ (Vo _ _ rfl) rfl (jf rfl)) (.inl (by decide)) trivial;exact idle U4 hN (by simp[MK.fuel])
 | ke=>
  obtain rfl:=iz Vg (.inr (.inl rfl));rcases bS hm VA with ⟨-,g',U4,n',hN⟩|⟨n',g',rfl,-,U4,hN⟩
  exact go (m':=.aq) (mf':=n') (U4 w) (Aside.refl _ _) hN hz (Zr _ ⟨by simp[mk,MemAct.ofEvent],dQ (Wg:=Wg) (.inr (.inl rfl)),.inl rfl⟩ rfl (jf rfl)) (.inl (by decide)) trivial;exact idle U4 hN (by simp[MK.fuel])
 | aq=>
  obtain rfl:=iz Vg (.inr (.inr (.inl rfl)));rcases bS hm VA with ⟨-,g',U4,n',hN⟩|⟨n',g',rfl,-,U4,hN⟩
  have b1:=Zr (KJ':=WR J Wg .aq .gone) (mk (.acquire (stA Wg))) ⟨by simp[mk,MemAct.ofEvent],dQ (Wg:=Wg) (.inr (.inr ⟨UY,by simp⟩)),.inl rfl⟩ rfl (jf rfl);refine go (m':=.fin) (mf':=n') (U4 w) (Aside.refl _ _) hN hz ⟨b1.1,b1.2.1.Ow λi hi=>?_,b1.2.2⟩ (.inl (by decide)) trivial;rw[ofEvents_one] at hi b1 ⊢;obtain⟨-,p,⟨y,y1,y2,y3⟩,hb⟩:=hi;have hlast:(t++#[({g:=0,fn:=g.frame.fn,pos:=g.frame.place,act:=.ofEvent (mk (.acquire (stA Wg)))} : MemOp)])[t.size]? = some {g:=0,fn:=g.frame.fn,pos:=g.frame.place,act:=.ofEvent (mk (.acquire (stA Wg)))}:=(by rw[Array.getElem?_append_right (I' _)];simp);have Yx:p≠t.size:=λe=>(by rw[e,hlast] at y1;obtain rfl:=Oi y1;simp[mk,MemAct.ofEvent] at y2);have hpl:p<t.size:=(by have:=lt_size_of_getElem? y1;simp at this;omega);have XM:=sC (a:=stA Wg) hpl y1 hlast (.inr y2) rfl (λk=>b1.2.1.norel k _) y3 (by rw[deaf_old (I' _)];exact hI.2.1.d0);exact Knows.of_before hb XM;exact idle U4 hN (by simp[MK.fuel])
 | fini=>
  obtain rfl:=iz Vg (.inr (.inr (.inr (.inr rfl))));obtain⟨hm,hnf⟩:=hm;rcases bS hm VA with hF|⟨n',g',rfl,-,U4,hN⟩
  exact Up hF hnf;have hx:Xw (Xt J .gone) Wg (VF Wg Sst) (WR J Wg .fin .gone) MK.fin.deaf (pE J .fin .gone) t:=hI.2.1.Ow λi hi=>Up (hi.1 rfl) (by simp[MK.joined]);refine go (m':=.fin) (mf':=n') U4 (Aside.refl _ _) hN hz ?_ (.inr ⟨rfl,by simp[MK.fuel];omega⟩) trivial;rw[ofEvents_none,Array.append_empty];exact⟨hI.1,hx,hI.2.2⟩
end
end Go.Proofs.YtgigkennhdolpaaGreatDoor
