/- Company, 36: the go statement. -/
import Derived.Test.YtgigkennhdolpaaGreatDoorM24
import Derived.Test.YtgigkennhdolpaaGreatDoorM2
import Derived.Test.YtgigkennhdolpaaGreatDoorM12
import Derived.Test.YtgigkennhdolpaaGreatDoorM9
import Derived.Test.YtgigkennhdolpaaGreatDoorM3
namespace Go.Proofs.YtgigkennhdolpaaGreatDoor
open Go.Conc Go.ConcN
open Go.ConcN (sumTo upd sumTo_upd upd_ne upd_same)
open Go.ConcR (KK wgBlock WgAt stA smA rd wr mk DC0)
section
variable {P:Program}{ty:TypeId}{Wg c:Nat}{Rm:Nat->Prop}{Fa:Goroutine->Prop}{YC:∀g,Fa g->g.status=.running}{Cl D:Goroutine->World->Prop}{hC:∀{g W W1},Cl g W->Rv W W1->Cl g W1}{hCr:∀g W,Cl g W->g.status=.running}{hD:∀{g W W1},D g W->Rv W W1->D g W1}{hcw:c≠Wg}{vs:List Value}
 {hQ:∀{g W W1},YU P c Rm Cl D vs g W->Rv W W1->YU P c Rm Cl D vs g W1} {Y8:∀g W,YU P c Rm Cl D vs g W->g.status=.running}
 {Sst:Nat->Prop} {zs:Nat->Option Obj} {w0:World} {s r:Nat} {tm:Bool} {k k':AK} {n n':Nat}
 {gs:Array Goroutine} {w w' W:World} {t:Trace} {S:Nat->Nat->Prop} {V:Nat->World} {rk:Nat->Rk} {q:Nat->Nat} {g g':Goroutine} {es:Array Event} {sl:Option (Nat×Nat)} {Φ:Value->World->Prop} {w00:World} {S0:Nat->Prop}
open Classical in
set_option maxHeartbeats 4000000 in
theorem Mu(hRS:∀b,Rm b->¬Sst b∧b≠c∧b≠Wg)(h:bz (cwA P ty Wg c Fa YC (YU P c Rm Cl D vs) hQ Y8 Sst Rm zs w0 s r tm .ow n) gs w t S V rk q)(hi:gs[0]? = some g)(hm:YU P c Rm Cl D vs g (V 0)) :
  ∃Vk S' V' rk' ops,runT P (crowd gs w sl) 0=(.next (crowd Vk w sl),ops)∧gs.size≠0∧bz (XV P ty gs.size Wg c Cl D hC hCr hD hcw Sst Rm zs w0 vs false false s r tm) Vk w (t++ops) S' V' rk' q:=by
 obtain⟨-,g1,child,U4,VX,hg1,hch⟩:=hm;have hI:ivP 0 Wg (VF Wg Sst) Rm 0 0 (λ_ _=>False) (ExA Wg c w0.heap.size Sst) S w.heap.size t:=h.trace;obtain⟨x1,x2,x3,x4,x6,x5⟩:=hI.2.2.2;have hlt0:=h.here 0 (.inl rfl);have hJ:gs.size≠0:=by omega
 obtain⟨J,hJe⟩:∃J,J=gs.size:=⟨_,rfl⟩
 have YL:=h.view 0 (.inl rfl);have hRn:∀b,Rm b->¬S 0 b:=λb hr hs=>by obtain⟨a1,a2,a3⟩:=hRS b hr;rcases x4 b hs with e|e|e;exact a1 e;exact a2 e;exact a3 e
 let S':Nat->Nat->Prop:=λj b=>if j=0 then b<w.heap.size∧¬Rm b else S 0 b;have Wv:S' 0=λb=>b<w.heap.size∧¬Rm b:=by funext b;exact Uw rfl
 have Wu:∀j,j≠0->S' j=S 0:=λj hj=>by funext b;exact Uv hj
 have Wj:=jL (S:=S' 0) (R:=Rm) (w:=w) (λb o hb ho=>by
  rw[Wv] at hb;have UY:=(E'.1 ho).1;by_cases hr:Rm b;obtain⟨cs,tt,fr,hh,e1,-,-⟩:=YL.lent b (hRn b hr) hr;rw[ho] at e1;obtain rfl:=Oi e1;trivial;exact Up ⟨UY,hr⟩ hb) (λb hb=>by rw[Wv] at hb;exact hb.1) (λb _ hb=>by
  obtain⟨cs,tt,fr,hh,e1,-,-⟩:=YL.lent b (hRn b hb) hb;exact⟨cs,tt,fr,e1⟩)
 have hV0:∀b,Rm b->∃cs tt fr hi,w.heap[b]? = some (.cells cs tt fr)∧(V 0).heap[b]? = some (.cells cs tt (0,hi))∧cs.size<=hi:=λb hb=>YL.lent b (hRn b hb) hb
 -- X5 starter's new view: X5 lent blocks as it saw them
 let Wb:World:={mask (S' 0) Rm w with heap:=(mask (S' 0) Rm w).heap.mapIdx λb o=>if Rm b then((V 0).heap[b]?).getD o else o}
 have hWb:∀b:Nat,Wb.heap[b]? = (mask (S' 0) Rm w).heap[b]?.map λo=>if Rm b then((V 0).heap[b]?).getD o else o:=λb=>by show ((mask (S' 0) Rm w).heap.mapIdx _)[b]? = _;simp[Array.getElem?_mapIdx]
 have Xc:Wb.heap.size=(mask (S' 0) Rm w).heap.size:=by show ((mask (S' 0) Rm w).heap.mapIdx _).size=_;simp
 have hbl:∀b:Nat,Rm b->Wb.heap[b]? = (V 0).heap[b]?:=λb hb=>by obtain⟨cs,tt,fr,hh,e1,e2,e3⟩:=hV0 b hb;obtain⟨o,ho⟩:∃o,(mask (S' 0) Rm w).heap[b]? = some o:=(by have hl:b<(mask (S' 0) Rm w).heap.size:=(by rw[<-Wj.size];exact(E'.1 e1).1);exact⟨_,Uj hl⟩);rw[hWb,ho,e2];show some (if Rm b then _ else _)=_;rw[Uw hb];rfl
 have hvb:View (S' 0) Rm w Wb:=by
  refine⟨Wj.tape,Wj.drawn,Wj.os,Wj.output,Wj.size.trans Xc.symm,λb h1 h2=>?_,λb h1 h2=>?_,λb h1=>?_,λb o h1=>?_⟩
  ·rw[hWb,Wj.same b h1 h2];cases (mask (S' 0) Rm w).heap[b]? with
   | none=>rfl
   | some o=>show some o=some (if Rm b then _ else _);rw[Uv h2]
  rw[hbl b h2];exact YL.lent b (hRn b h2) h2;rw[hWb,Wj.pois b h1];rw[Wv] at h1;show some (if Rm b then _ else _)=_;rw[Uv h1.2];rw[hWb] at h1;obtain⟨o',e,rfl⟩:=Option.map_eq_some_iff.1 h1;split;rename_i hb;obtain⟨cs,tt,fr,hh,e1,e2,e3⟩:=hV0 b hb;rw[e2];trivial;exact Wj.plain b o' e
 obtain⟨r1,Z1⟩:=(hg1 _ hbl).dF;obtain⟨r2,WE⟩:=hch.dF;let V':Nat->World:=λj=>if j=0 then Wb else V 0;have hV'0:V' 0=Wb:=Uw rfl;have hV'J:∀j,j≠0->V' j=V 0:=λj hj=>Uv hj;let rk':Nat->Rk:=λj=>if j=0 then r1 else r2;have UU:=runT_crowd_spawn (P:=P) (sl:=sl) (i:=0) hi (U4 true w);rw[ofEvents_none] at UU;have hops:∀u:Trace,t++((#[]:Trace).push {g:=0,fn:=g.frame.fn,pos:=g.frame.place,act:=.go gs.size} |>.push {g:=gs.size,fn:=child.frame.fn,pos:=g.frame.place,act:=.start})=t++#[({g:=0,fn:=g.frame.fn,pos:=g.frame.place,act:=.go gs.size} : MemOp),{g:=gs.size,fn:=child.frame.fn,pos:=g.frame.place,act:=.start}]:=λ_=>rfl;have hdJ:Deaf t J=0:=h.above J (by rw[hJe];exact I' _);have XM:∀i,Knows t 0 i->Knows (t++#[({g:=0,fn:=g.frame.fn,pos:=g.frame.place,act:=.go J} : MemOp),{g:=J,fn:=child.frame.fn,pos:=g.frame.place,act:=.start}]) J i:=λi hk=>Go.ConcN.fork_knows (x:={g:=0,fn:=g.frame.fn,pos:=g.frame.place,act:=.go J}) (y:={g:=J,fn:=child.frame.fn,pos:=g.frame.place,act:=.start}) ⟨rfl,rfl⟩ ⟨rfl,rfl⟩ hI.2.1.d0 hdJ hk;have X9:∀j,Deaf (t++#[({g:=0,fn:=g.frame.fn,pos:=g.frame.place,act:=.go J} : MemOp),{g:=J,fn:=child.frame.fn,pos:=g.frame.place,act:=.start}]) j=Deaf t j:=λj=>Deaf_quiet λop UQ d=>by simp at UQ;rcases UQ with rfl|rfl<;>rfl
 have hgs:∀(j:Nat) (y:Goroutine),((gs.setIfInBounds 0 g1).push child)[j]? = some y->(j=0∧y=g1)∨(j=J∧y=child)∨(j≠0∧j≠J∧gs[j]? = some y):=λj y hy=>by
  rw[Array.getElem?_push] at hy;by_cases e:j=(gs.setIfInBounds 0 g1).size;rw[Uw e] at hy;exact .inr (.inl ⟨by rw[e,hJe];simp,(Oi hy).symm⟩);rw[Uv e] at hy;rcases kN hy with ⟨e0,_,rfl⟩|⟨e0,hx⟩
  exact .inl ⟨e0,rfl⟩;exact .inr (.inr ⟨e0,by rw[hJe];simpa using e,hx⟩)
 refine⟨(gs.setIfInBounds 0 g1).push child,S',V',rk',_,UU,hJ,?_⟩;rw[hops t,<-hJe];have Ys:J≠0:=by rw[hJe];exact hJ
 refine⟨λj y hj hy=>?_,λj hj=>?_,λa b ha hb UR x hx=>?_,λb hb=>?_,λj y hj hy=>?_,λj hj=>?_,?_,λj hj=>?_,λj hj=>?_,h.base⟩
 ·rcases hgs j y hy with ⟨rfl,rfl⟩|⟨rfl,rfl⟩|⟨e0,eJ,_⟩
  rw[hV'0];show WS P _ (if (0:Nat)=0 then r1 else r2) _ _;rw[Uw rfl];exact dR (λa b Wn=>⟨λ_=>Wn,λe=>Up rfl e⟩) Z1;rw[hV'J _ Ys];show WS P _ (if j=0 then r1 else r2) _ _;rw[Uv Ys];exact dR (λa b Wn=>⟨λe=>Up e Ys,λ_=>Wn⟩) WE;rcases hj with x|x;exact Up x e0;exact Up x eJ
 by_cases e:j=0;subst e;rw[hV'0];exact hvb;rw[hV'J j e,Wu j e];exact YL;by_cases hr:Rm x;exact .inr (.inr hr);rcases ha with ha|ha;rw[ha,Wv];exact .inl ⟨hx,hr⟩;rcases hb with hb|hb;rw[hb,Wv];exact .inr (.inl ⟨hx,hr⟩);exact Up (ha.trans hb.symm) UR;have hc0:=h.common b hb;refine⟨λj hj=>?_,hc0.2⟩;rcases hc0.1 0 (.inl rfl) with YN|hr;left;by_cases e:j=0;rw[e,Wv];exact⟨x1 b YN,λhr=>hRn b hr YN⟩;rw[Wu j e];exact YN;exact .inr hr
 ·rcases hgs j y hy with ⟨rfl,rfl⟩|⟨rfl,rfl⟩|⟨e0,eJ,hx⟩
  exact Up (.inl rfl) hj;exact Up (.inr rfl) hj;rw[X9];exact h.old j y (λz=>by rcases z with z|z<;>exact e0 z) hx
 rw[X9];exact h.above j (by have:gs.size+1<=j:=(by simpa using hj);omega)
 ·refine⟨?_,⟨(X9 0).trans hI.2.1.d0,(X9 J).trans hdJ,mb hI.2.1.norel λop UQ a=>?_,λkk a hk hb=>?_,λkk a hk b hb=>?_⟩,λj hj=>?_,?_⟩;exact hI.1.fork (act':=λi=>i=0∨i=J) (S':=S') (R':=λ_=>Rm) (j:=J) (.inl rfl) hI.2.1.d0 hdJ ⟨rfl,rfl⟩ ⟨rfl,rfl⟩ (λb hb=>by rw[Wu J Ys];exact hb) (λb hb=>.inr hb) (λi hi b hb=>by have Xh:i=0:=(by rcases hi with e|e<;>exact e);rw[Xh] at hb ⊢;rw[Wv];exact⟨x1 b hb,λhr=>hRn b hr hb⟩) (λi hi b hb=>.inr hb) (λi hi=>hi.imp .inl id);simp at UQ;rcases UQ with rfl|rfl<;>exact λe=>by cases e
  ·obtain⟨x,hx,Xu⟩:=touch_of hk;rcases getElem?_append_cases hx with ⟨_,Wz⟩|⟨_,Yw⟩
   obtain⟨y1,y2⟩:=hI.2.1.wg kk a (by rw[touchAt_of Wz];exact Xu) hb;exact⟨λe=>⟨(y1 e).1.app _,XM _ (y1 e).1⟩,λe=>(y2 e).app _⟩;simp at Yw;rcases Yw with rfl|rfl<;>cases Xu
  ·obtain⟨x,hx,Xu⟩:=touch_of hk;rcases getElem?_append_cases hx with ⟨UY,Wz⟩|⟨_,Yw⟩
   rcases hI.2.1.all kk a (by rw[touchAt_of Wz];exact Xu) b hb with y|y|y;exact .inl (y.app _);exact y.elim;exact .inr (.inr (y.app UY));simp at Yw;rcases Yw with rfl|rfl<;>cases Xu
  by_cases e:j=0;rw[e,Wv];exact⟨x5,λhr=>(hRS _ hr).2.2 rfl⟩;rw[Wu j e];exact hI.2.2.1 0 (.inl rfl);refine⟨λi b hi hb=>?_,λb hb=>⟨?_,?_⟩,⟨?_,?_⟩,λb hb Vi=>?_,λb hb _=>?_,x6,x5⟩;by_cases e:i=0;rw[e,Wv] at hb;exact hb.1;rw[Wu i e] at hb;exact x1 b hb;rw[Wv];exact⟨x1 b (x2 b hb),λhr=>(hRS b hr).1 hb⟩;rw[Wu J Ys];exact x2 b hb;rw[Wv];exact⟨x1 c x3,λhr=>(hRS c hr).2.1 rfl⟩;rw[Wu J Ys];exact x3;rw[Wu J Ys] at Vi;exact x4 b Vi;rw[Wu J Ys] at hb;exact x4 b hb
 rcases hj with ⟨-,e⟩|⟨-,-,e⟩<;>cases e
 show j<((gs.setIfInBounds 0 g1).push child).size;rw[Array.size_push,Array.size_setIfInBounds];rcases hj with e|e;omega;have:j=J:=e;omega
set_option maxHeartbeats 4000000 in
theorem QZ(hRS:∀b,Rm b->¬Sst b∧b≠c∧b≠Wg)(V8:VF Wg Sst Wg)(HE:∀{J:Nat},J≠0->∀{gs w sl t S V rk q},bz (XV P ty J Wg c Cl D hC hCr hD hcw Sst Rm zs w0 vs false false s r tm) gs w t S V rk q->Ends P Φ (crowd gs w sl) t) :
  ∀a b:Nat,∀k n,k.dF=a->n=b->∀{gs w sl t S V rk q},bz (cwA P ty Wg c Fa YC (YU P c Rm Cl D vs) hQ Y8 Sst Rm zs w0 s r tm k n) gs w t S V rk q->Ends P Φ (crowd gs w sl) t:=by
 intro a
 induction a using Nat.strongRecOn with|ind a iha=>?_
 intro b
 induction b using Nat.strongRecOn with|ind b ihb=>?_
 intro k n ea eb gs w sl t S V rk q h;have IH:∀k' n',(k'.dF<k.dF∨(k'=k∧n'<n))->∀{gs w sl t S V rk q},bz (cwA P ty Wg c Fa YC (YU P c Rm Cl D vs) hQ Y8 Sst Rm zs w0 s r tm k' n') gs w t S V rk q->Ends P Φ (crowd gs w sl) t:=by
  intro k' n' hl gs w sl t S V rk q hc;rcases hl with hl|⟨rfl,hl⟩
  exact iha _ (by rw[<-ea];exact hl) _ k' n' rfl rfl hc;exact ihb _ (by rw[<-eb];exact hl) k' n' ea rfl hc
 refine kS (λhc=>Jy hc) ?_ h;intro gs w sl t S V rk q i g Xy Vs hi UU hl hQ2;have Xh:i=0:=by rcases Vs with e|e<;>exact e
 subst Xh;obtain⟨hm,hW⟩:=hQ2 rfl;have hz:=wgA Xy;have VA:=dL hz;have hI:ivP 0 Wg (VF Wg Sst) Rm k.deaf k.deaf (λ_ _=>False) (ExA Wg c w0.heap.size Sst) S w.heap.size t:=Xy.trace;have UY:=hI.2.2.2.2.2.2.2.2;have go:∀{k' n' g' w' es},k'≠.ow->k≠.ow->stepG P true g w=.go g' w' es->Aside Wg w w'->QA P ty Wg Fa (YU P c Rm Cl D vs) k' n' g' (V 0)->w'.heap[Wg]? = some (wgBlock ty k'.val 0)->
   ivP 0 Wg (VF Wg Sst) Rm k'.deaf k'.deaf (λ_ _=>False) (ExA Wg c w0.heap.size Sst) S w.heap.size (t++MemOp.ofEvents 0 g.frame.fn g.frame.place es)->(k'.dF<k.dF∨(k'=k∧n'<n))->
   ∃XK ops,runT P (crowd gs w sl) 0=(.next XK,ops)∧(Ends P Φ XK (t++ops)∨∃Vk,XK=crowd Vk w sl∧Vk.size=gs.size∧cU Vk<cU gs∧bz (cwA P ty Wg c Fa YC (YU P c Rm Cl D vs) hQ Y8 Sst Rm zs w0 s r tm k n) Vk w (t++ops) S V rk q):=by
  intro k' n' g' w' es hko hko2 a1 a2 a3 a4 a5 a6;obtain⟨Vk,V',rk',b1,b2⟩:=zX (sl:=sl) (k':=k') (n':=n') (rr:=.leaf) Xy hi a1 a2 ⟨a3,λ_=>hW hko2⟩ (λ_=>rfl) a4 a5;exact⟨_,_,b1,.inl (IH k' n' a6 b2)⟩
 have idle:∀{g' n'},k≠.ow->stepG P true g w=.go g' w #[]->QA P ty Wg Fa (YU P c Rm Cl D vs) k n' g' (V 0)->n'<n->∃XK ops,runT P (crowd gs w sl) 0=(.next XK,ops)∧(Ends P Φ XK (t++ops)∨∃Vk,XK=crowd Vk w sl∧Vk.size=gs.size∧cU Vk<cU gs∧bz (cwA P ty Wg c Fa YC (YU P c Rm Cl D vs) hQ Y8 Sst Rm zs w0 s r tm k n) Vk w (t++ops) S V rk q):=
  λa0 a1 a2 a3=>go a0 a0 a1 (Aside.refl _ _) a2 hz (by rw[ofEvents_none,Array.append_empty];exact hI) (.inr ⟨rfl,a3⟩)
 -- on to X5 own walk
 have own:∀{g' es},k≠.ow->Fa g'->stepG P true g w=.go g' w es->k.val=KK->4<k.dF->
   ivP 0 Wg (VF Wg Sst) Rm 0 0 (λ_ _=>False) (ExA Wg c w0.heap.size Sst) S w.heap.size (t++MemOp.ofEvents 0 g.frame.fn g.frame.place es)->
   ∃XK ops,runT P (crowd gs w sl) 0=(.next XK,ops)∧(Ends P Φ XK (t++ops)∨∃Vk,XK=crowd Vk w sl∧Vk.size=gs.size∧cU Vk<cU gs∧bz (cwA P ty Wg c Fa YC (YU P c Rm Cl D vs) hQ Y8 Sst Rm zs w0 s r tm k n) Vk w (t++ops) S V rk q):=by
  intro g' es hko hF a1 hv hr a5;obtain⟨r1,Z1⟩:=(hW hko g' hF).dF;obtain⟨Vk,V',rk',b1,b2⟩:=zX (sl:=sl) (k':=.ow) (n':=0) (rr:=r1) Xy hi a1 (Aside.refl _ _) (dR (λa b Wn=>⟨Wn,λe=>Up rfl e⟩) Z1) (λe=>Up rfl e) (by rw[hz,hv];rfl) a5;exact⟨_,_,b1,.inl (IH .ow 0 (.inl hr) b2)⟩
 have Zr:∀{dm':Nat} (e:Event),((∀b:Addr,MemAct.ofEvent e≠.mark (.release b))∧(MemAct.ofEvent e).low w.heap.size∧((MemAct.ofEvent e).touch? = none∨(∃a wr,MemAct.ofEvent e=.access ⟨.cell a,wr,true⟩∧a.block=Wg)∨∃a:Addr,(MemAct.ofEvent e=.mark (.read a)∨MemAct.ofEvent e=.mark (.write a))∧a.block=Wg))->
   deafStep 0 k.deaf ({g:=0,fn:=g.frame.fn,pos:=g.frame.place,act:=.ofEvent e} : MemOp)=dm'->ivP 0 Wg (VF Wg Sst) Rm dm' dm' (λ_ _=>False) (ExA Wg c w0.heap.size Sst) S w.heap.size (t++MemOp.ofEvents 0 g.frame.fn g.frame.place #[e]):=by
  intro dm' e he hd;rw[ofEvents_one];have:=iv0 (J:=0) (op:={g:=0,fn:=g.frame.fn,pos:=g.frame.place,act:=.ofEvent e}) (dw:=0) (KJ':=λ_ _=>False) (by rw[Uw rfl];exact hI) V8 rfl he (λ_ (x:False)=>x.elim);rw[Uw rfl,hd] at this;exact this
 have Vo:∀(a:Addr) (x:Bool),a.block=Wg->((∀b:Addr,MemAct.ofEvent ⟨.cell a,x,true⟩≠.mark (.release b))∧(MemAct.ofEvent ⟨.cell a,x,true⟩).low w.heap.size∧((MemAct.ofEvent ⟨.cell a,x,true⟩).touch? = none∨(∃a' wr,MemAct.ofEvent ⟨.cell a,x,true⟩=.access ⟨.cell a',wr,true⟩∧a'.block=Wg)∨∃a':Addr,(MemAct.ofEvent ⟨.cell a,x,true⟩=.mark (.read a')∨MemAct.ofEvent ⟨.cell a,x,true⟩=.mark (.write a'))∧a'.block=Wg)):=λa x e=>
  ⟨by simp[MemAct.ofEvent],by show a.block<_;rw[e];exact UY,.inr (.inl ⟨a,x,rfl,e⟩)⟩
 cases k with
 | kd=>
  rcases bS hm VA with ⟨-,g',U4,n',hN⟩|⟨n',g',rfl,-,U4,hN⟩
  exact go (k':=.add) (n':=n') (by decide) (by decide) (U4 w) (Aside.refl _ _) hN hz (Zr _ ⟨by simp[mk,MemAct.ofEvent],dQ (Wg:=Wg) (.inl rfl),.inl rfl⟩ (by simp[deafStep,mk,MemAct.ofEvent,AK.deaf])) (.inl (by decide));exact idle (by decide) U4 hN (by omega)
 | add=>
  rcases bS hm VA with ⟨-,g',U4,n',hN⟩|⟨n',g',rfl,-,U4,hN⟩
  have WC:(w.setCell (stA Wg) (.int .u64 KK)).heap[Wg]? = some (wgBlock ty KK 0):=Go.ConcR.WgAt.setSt hz _;refine go (k':=.sr) (n':=n') (by decide) (by decide) (U4 w hz) (aside_setCell w (stA Wg) _) hN WC ?_ (.inl (by decide));rw[kF];have b1:=Zr (dm':=1) (rd (stA Wg)) (Vo _ _ rfl) (by simp[deafStep,rd,MemAct.ofEvent,AK.deaf]);rw[ofEvents_one] at b1;have b2:=iv0 (J:=0) (op:={g:=0,fn:=g.frame.fn,pos:=g.frame.place,act:=.ofEvent (wr (stA Wg))}) (dw:=0) (KJ':=λ_ _=>False) (by rw[Uw rfl];exact b1) V8 rfl (Vo (stA Wg) true rfl) (λ_ (x:False)=>x.elim);rw[Uw rfl] at b2;exact b2;exact idle (by decide) U4 hN (by omega)
 | sr=>
  rcases bS hm VA with ⟨-,g',U4,n',hN⟩|⟨n',g',rfl,-,U4,hN⟩
  exact go (k':=.ke) (n':=n') (by decide) (by decide) (U4 w) (Aside.refl _ _) hN hz (Zr _ ⟨by simp[mk,MemAct.ofEvent],dQ (Wg:=Wg) (.inr (.inr ⟨UY,by simp⟩)),.inr (.inr ⟨smA Wg,.inl rfl,rfl⟩)⟩ (by simp[deafStep,mk,MemAct.ofEvent,AK.deaf])) (.inl (by decide));exact idle (by decide) U4 hN (by omega)
 | ke=>
  rcases bS hm VA with ⟨-,g',U4,n',hN⟩|⟨n',g',rfl,-,U4,hN⟩
  have b1:=Zr (dm':=0) (mk .enable) ⟨by simp[mk,MemAct.ofEvent],dQ (Wg:=Wg) (.inr (.inl rfl)),.inl rfl⟩ (by simp[deafStep,mk,MemAct.ofEvent,AK.deaf]);by_cases hF:Fa g';exact own (by decide) hF (U4 w) rfl (by decide) b1;exact go (k':=.bk) (n':=n') (by decide) (by decide) (U4 w) (Aside.refl _ _) ⟨hN,hF⟩ hz b1 (.inl (by decide));exact idle (by decide) U4 hN (by omega)
 | bk=>
  obtain⟨hm,hnf⟩:=hm;rcases bS hm VA with hF|⟨n',g',rfl,-,U4,hN⟩
  exact Up hF hnf;have b1:ivP 0 Wg (VF Wg Sst) Rm 0 0 (λ_ _=>False) (ExA Wg c w0.heap.size Sst) S w.heap.size (t++MemOp.ofEvents 0 g.frame.fn g.frame.place #[]):=(by rw[ofEvents_none,Array.append_empty];exact hI);by_cases hF:Fa g';exact own (by decide) hF U4 rfl (by decide) b1;exact idle (by decide) U4 ⟨hN,hF⟩ (by omega)
 | ow=>
  obtain⟨Vk,S',V',rk',ops,b1,b0,b2⟩:=Mu (Cl:=Cl) (D:=D) (sl:=sl) (hC:=hC) (hCr:=hCr) (hD:=hD) (hcw:=hcw) hRS Xy hi hm;exact⟨_,_,b1,.inl (HE b0 b2)⟩
end
section
variable {P:Program}{ty:TypeId}{Wg c:Nat}{Rm:Nat->Prop}{lent0:Nat->Option Obj}{F:World->Prop}{Fin Fa:Goroutine->Prop}{vs:List Value}{s r:Nat}{tm:Bool}{g:Goroutine}{W:World}{Φ:Value->World->Prop}{w00:World}{S0:Nat->Prop}
theorem phase(hF:∀{W W1},F W->Rv W W1->F W1)(hFin:∀g,Fin g->g.status=.running)(YC:∀g,Fa g->g.status=.running)(hcw:c≠Wg)(Zm:W.heap[Wg]? = some (wgBlock ty 0 0))(hc:W.heap[c]? = some (.chan 0 #[] false s r tm))(hnew:w00.heap.size<=Wg∧w00.heap.size<=c)
  (hRm:∀b,Rm b->W.heap[b]? = lent0 b∧b≠Wg∧b≠c∧∃cs tt fr,lent0 b=some (.cells cs tt fr)∧cs.size≠0) (hAdd:Q7 P true ty Wg Fa g) (hGo:∀g,Fa g->∀W1,Rv W W1->∀Wm,Q5 c Wg Rm W1 Wm->Gs P (YU P c Rm (XB P ty Wg c Fin) (Xs P ty Wg F) vs) g Wm) (HB:xo P Φ w00 S0 Fin F W Rm lent0 c Wg):Er P Φ w00 S0 g W:=by
 intro W1 r1 Xc S w gs sl t hv hS h0 hB;obtain⟨n,hAdd⟩:=hAdd;have hWg1:=r1.heap _ _ Zm;have hc1:=r1.heap _ _ hc;have nS:∀{b:Nat} {o:Obj},W1.heap[b]? = some o->o≠rU->¬S b:=λho UR hb=>UR (by have:=hv.pois _ hb;rw[this] at ho;exact(Oi ho).symm);have hSWg:¬S Wg:=nS hWg1 (by simp[rU,wgBlock]);have hSc:¬S c:=nS hc1 (by simp[rU]);have hwg:w.heap[Wg]? = some (wgBlock ty 0 0):=by rw[hv.same Wg hSWg (λx=>x)];exact hWg1
 have hwc:w.heap[c]? = some (.chan 0 #[] false s r tm):=by rw[hv.same c hSc (λx=>x)];exact hc1
 have WO:∀b,S b->b<w.heap.size:=λb hb=>by rw[hv.size];exact hv.low (.inl hb)
 let S1:Nat->Prop:=λb=>S b∨b=c∨b=Wg;have hR1:∀b,Rm b->¬S b∧∃cs tt fr,w.heap[b]? = some (.cells cs tt fr)∧W1.heap[b]? = some (.cells cs tt fr)∧w.heap[b]? = lent0 b:=λb hb=>by obtain⟨a1,a2,a3,cs,tt,fr,a4,a5⟩:=hRm b hb;have h1:W1.heap[b]? = some (.cells cs tt fr):=r1.heap _ _ (a1.trans a4);have hn:¬S b:=nS h1 (by intro e;injection e with e1;rw[e1] at a5;exact a5 rfl);have h2:w.heap[b]? = some (.cells cs tt fr):=(by rw[hv.same b hn (λx=>x)];exact h1);exact⟨hn,cs,tt,fr,h2,h1,h2.trans a4.symm⟩
 have hm:=jL (S:=S1) (R:=Rm) (w:=w) (λb o hb ho=>hv.plain b o (by rw[<-hv.same b (λx=>hb (.inl x)) (λx=>x)];exact ho)) (λb hb=>by
  rcases hb with hb|rfl|rfl;exact WO b hb;exact(E'.1 hwc).1
  ·exact(E'.1 hwg).1) (λb _ hb=>by obtain⟨-,cs,tt,fr,e,-⟩:=hR1 b hb;exact⟨cs,tt,fr,e⟩)
 have hRS1:∀b,Rm b->¬S1 b:=λb hb=>by obtain⟨a1,a2,a3,-⟩:=hRm b hb;rintro(x|x|x);exact(hR1 b hb).1 x;exact a3 x;exact a2 x
 have Yi:Q5 c Wg Rm W1 (mask S1 Rm w):=by refine⟨hm.os.symm.trans hv.os,hm.tape.symm.trans hv.tape,hm.output.symm.trans hv.output,hm.size.symm.trans hv.size,λb h1 h2 h3=>?_,λb hb=>?_,hm.pois c (.inr (.inl rfl)),hm.pois Wg (.inr (.inr rfl))⟩;by_cases hb:S b;rw[hm.pois b (.inl hb),hv.pois b hb];rw[<-hm.same b (by rintro(x|x|x);exact hb x;exact h1 x;exact h2 x) h3,hv.same b hb (λx=>x)];obtain⟨n1,cs,tt,fr,e1,e2,-⟩:=hR1 b hb;have:=hm.lent b (hRS1 b hb) hb;rw[e1] at this;rw[e2];exact this
 have hDl:∀{g W W1},Xs P ty Wg F g W->Rv W W1->Xs P ty Wg F g W1:=λh r=>⟨h.1,hF h.2 r⟩
 have hCl:∀{g W W1},XB P ty Wg c Fin g W->Rv W W1->XB P ty Wg c Fin g W1:=λ⟨a,b,g',d,e,f⟩ r=>⟨a,b,g',d,e,f.later (λx _=>x) r⟩
 have hCr:∀g W,XB P ty Wg c Fin g W->g.status=.running:=λg W h=>h.1;have hQl:∀{g W W1},YU P c Rm (XB P ty Wg c Fin) (Xs P ty Wg F) vs g W->Rv W W1->YU P c Rm (XB P ty Wg c Fin) (Xs P ty Wg F) vs g W1:=λ⟨a,g1,ch,b,d0,d,e⟩ r=>⟨a,g1,ch,b,λx hx=>by obtain⟨o,ho⟩:=d0 x hx;exact⟨o,r.heap _ _ ho⟩,λW0 hW0=>d W0 λx hx=>by obtain⟨o,ho⟩:=d0 x hx;rw[hW0 x hx,r.heap _ _ ho,ho],e.later (λx y=>gI (D:=Xs P ty Wg F) (λu v=>hDl u v) x y) r⟩
 have Y8:∀g W,YU P c Rm (XB P ty Wg c Fin) (Xs P ty Wg F) vs g W->g.status=.running:=λg W h=>h.1;obtain⟨⟨q,hL⟩,⟨Xp,hP,V8⟩,hqt⟩:=hB;have hcrew:bz (cwA P ty Wg c Fa YC (YU P c Rm (XB P ty Wg c Fin) (Xs P ty Wg F) vs) hQl Y8 S Rm (λb=>w.heap[b]?) W s r tm .kd n) gs w t (λ_=>S1) (λ_=>mask S1 Rm w) (λ_=>.leaf) q:=by
  refine⟨λj y hj hy e=>?_,λj hj=>hm,λa b ha hb UR=>?_,λb hb=>⟨λj hj=>?_,?_⟩,λj y hj hy=>hL.old j y (Nat.pos_of_ne_zero λe=>hj (.inl e)) hy,hL.above,?_,λj hj=>rfl,λj hj=>?_,⟨hv.os.trans r1.os,hv.tape.trans r1.tape,hv.output.trans r1.output⟩⟩;subst e;rw[h0] at hy;obtain rfl:=Oi hy;exact⟨hAdd,λ_ g' Zl=>hGo g' Zl W1 r1 _ Yi⟩;exact Up ((by rcases ha with x|x<;>exact x:a=0).trans (by rcases hb with x|x<;>exact x:b=0).symm) UR;rcases hb with x|x|x|x;exact .inl (.inr (.inl x));exact .inl (.inr (.inr x));exact .inl (.inl x);exact .inr x;show _=zA ty Wg c (λb=>w.heap[b]?) s r tm .kd b;unfold zA;by_cases e:b=Wg;rw[Uw e,e];exact hwg;rw[Uv e];by_cases e2:b=c;rw[Uw e2,e2];exact hwc;rw[Uv e2]
  ·refine⟨?_,⟨hP.hears,hP.hears,hqt,λkk a hk hb=>?_,λkk a hk b hb=>?_⟩,λj hj=>.inr (.inr rfl),?_⟩;exact LH hP (λl hl=>by obtain⟨a,h1,h2⟩:=V8 l hl;exact⟨a,h1,.inl h2⟩) (λi hi=>by rcases hi with x|x<;>exact x);have Vm:a.loc.isMemory=true:=(by cases e:a.loc<;>rw[e] at hb<;>first|rfl|cases hb);have XM:Knows t 0 kk:=(hP.known kk a hk Vm).resolve_right λ⟨x,_⟩=>(by obtain⟨ad,h1,h2⟩:=V8 _ x;rw[tC h1 hb] at h2;exact hSWg h2);exact⟨λ_=>⟨XM,XM⟩,λ_=>XM⟩
   ·have Vm:a.loc.isMemory=true:=(by cases e:a.loc<;>rw[e] at hb<;>first|rfl|cases hb);rcases hP.known kk a hk Vm with x|⟨x,x2⟩
    exact .inl x;obtain⟨ad,h1,h2⟩:=V8 _ x;refine .inr (.inr ⟨x2,⟨ad,h1⟩,.inl (by rw[<-tC h1 hb];exact h2),λg hg UR hcn=>hP.over kk g hg UR hcn⟩)
   refine⟨λb hb=>?_,λb hb=>.inl hb,.inr (.inl rfl),λb hb=>hb,by rw[hv.size];exact r1.size,(E'.1 hwg).1⟩;rcases hb with hb|rfl|rfl;exact WO b hb;exact(E'.1 hwc).1;exact(E'.1 hwg).1
  have:j=0:=(by rcases hj with x|x<;>exact x);rw[this];exact(E'.1 h0).1
 refine QZ (Cl:=XB P ty Wg c Fin) (D:=Xs P ty Wg F) (hC:=hCl) (hCr:=hCr) (hD:=hDl) (hcw:=hcw) (λb hb=>⟨(hR1 b hb).1,(hRm b hb).2.2.1,(hRm b hb).2.1⟩) (.inr rfl) (λ{J} hJ=>?_) _ _ .kd n rfl rfl hcrew;intro gs w' sl t S2 V rk q Xy;exact MN (S0:=S0) hJ hF hFin (λb (hb:S b)=>⟨fun(e:b=Wg)=>hSWg (by rw[<-e];exact hb),fun(e:b=c)=>hSc (by rw[<-e];exact hb)⟩) hS.1 hS.2 hnew.1 (λb hb=>by obtain⟨a1,a2,a3,cs,tt,fr,a4,-⟩:=hRm b hb;obtain⟨n1,_,_,_,_,_,e3⟩:=hR1 b hb;exact⟨e3,n1,a2,a3,cs,tt,fr,a4⟩) HB _ vs false false s r tm rfl (by simp) Xy
end
end Go.Proofs.YtgigkennhdolpaaGreatDoor
namespace Go.Proofs.YtgigkennhdolpaaGreatDoor
open Go.Conc
def wpE(E:Goroutine->World->Prop)(b:Frame)(cs:List Frame)(c:Code)(Q:Exit->Act->World->Prop)(a:Act)(W:World):Prop:=
 ∀k:List Item,(∀e a' w',Q e a' w'->LK e∧Q6 E b k cs e a' w')->E (G (b.at a (.code c::k)) cs) W
section
variable {P:Program}{co:Bool}{E:Goroutine->World->Prop}{b:Frame}{cs:List Frame}{Q Q':Exit->Act->World->Prop}{a:Act}{W:World}
def eK(f:FuncId):Frame:={ (default:Frame) with fn:=f,kind:=.normal}
theorem l8{f:FuncId}{fn:Func}{c:Code}{args:Array Value}{R:Ending->World->Prop}(hE:Closed P co E)(hf:P.funcs[f]? = some fn)(hb:fn.body=some c)
  (hc:∀e w' fr,R e w'->fr.fn=f->fr.leaving P w' e->E (G fr cs) w')
  (h:wpE E (eK f) cs c (pO P co fn R) {tmps:=args++Array.replicate (fn.ntmps-args.size) undef,defers:=[]} W):E (G (Frame.enter P f args .normal) cs) W:=by
 have Zx:Frame.enter P f args .normal=(eK f).at {tmps:=args++Array.replicate (fn.ntmps-args.size) undef,defers:=[]} [.code c]:=by simp[Frame.enter,Frame.at,hf,hb,eK]
 rw[Zx];have Xv:∀a' w' todo,(a'.defers=[]∧∃v,(results fn a'.tmps).run P w'=.ok v w'∧R (.returned v) w')->E (G { (eK f).at a' todo with mode:=.returning} cs) w':=by rintro a' w' todo ⟨d,v,hv,hR⟩;exact hc (.returned v) w' _ hR rfl ⟨rfl,d,rfl,fn,hf,hv⟩
 refine h [] λe a' w' hq=>?_;cases e with
 | normal=>exact⟨trivial,hE.cg rfl (λ_ _=>stepG_end) (Xv a' w' [] hq)⟩
 | ret=>exact⟨trivial,λtodo=>Xv a' w' todo hq⟩
 | exit _=>exact hq.elim
 | goto _=>exact hq.elim
 | panic _=>exact hq.elim
 | outgrown=>exact hq.elim
end
end Go.Proofs.YtgigkennhdolpaaGreatDoor
namespace Go.Proofs.YtgigkennhdolpaaGreatDoor
open Go.Conc Go.RowKit
def Vy(n:Nat)(a:Act)(l:List (Nat×Value)):Prop:=a.tmps.size=n∧∀t v,look l t=some v->a.tmps[t]? = some v
section
variable {n:Nat}{a:Act}{l:List (Nat×Value)}{t d:Nat}{v:Value}
theorem au{α:Type}{l:List (Nat×α)}{t s:Nat}{v:α} : look ((t,v)::l) s=if t=s then some v else look l s:=by
 show (match Nat.beq t s with|true=>some v|false=>look l s)=_;by_cases e:t=s;subst e;rw[Uw rfl,UG];rw[Uv e];have:Nat.beq t s=false:=by
  cases h:Nat.beq t s with
  | false=>rfl
  | true=>exact Up (Nb h) e
 rw[this]
theorem Vy.put(h:Vy n a l)(ht:t<n)(v:Value):Vy n (a.put (some t) v) ((t,v)::l):=by refine⟨by show (a.tmps.setIfInBounds t v).size=n;rw[Array.size_setIfInBounds];exact h.1,λs u hs=>?_⟩;rw[au] at hs;by_cases e:t=s;rw[Uw e] at hs;obtain rfl:=Oi hs;subst e;exact fX (by rw[h.1];exact ht);rw[Uv e] at hs;rw[cr e];exact h.2 s u hs
theorem Vy.ev(h:Vy n a l)(e:look l t=some v):a.eval (.tmp t)=v:=aU (h.2 t v e)
theorem Vy.sub{l':List (Nat×Value)}(h:Vy n a l)(hl:∀t v,look l' t=some v->look l t=some v):Vy n a l':=⟨h.1,λt v e=>h.2 t v (hl t v e)⟩
end
def mM(P:Program)(a:Act)(o:Oper)(W:World)(v:Value):Prop:=NS P (execOp a.eval o)∧∀W1,Rv W W1->(execOp a.eval o).run P W1=.ok (.value v) W1
section
variable {P:Program}{co:Bool}{E:Goroutine->World->Prop}{b:Frame}{a:Act}{k:List Item}{cs:List Frame}{W:World}{ops:Array Oper}{i:Nat}{rest:List Nat}{o:Oper}{v:Value}
theorem m4(hE:Closed P co E){x y:Code}(h:E (G (b.at a (.code x::.code y::k)) cs) W):E (G (b.at a (.code (.seq x y)::k)) cs) W:=hE.cg rfl (λ_ _=>stepG_seq) h
theorem Qp(hE:Closed P co E)(h:E (G (b.at a k) cs) W):E (G (b.at a (.code .skip::k)) cs) W:=hE.cg rfl (λ_ _=>stepG_skip) h
theorem jj(hE:Closed P co E){id:Nat}{x:Code}(h:E (G (b.at a (.code x::.inBlock id::k)) cs) W):E (G (b.at a (.code (.block id x)::k)) cs) W:=hE.cg rfl (λ_ _=>stepG_block) h
theorem fb(hE:Closed P co E){id:Nat}(h:E (G (b.at a k) cs) W):E (G (b.at a (.inBlock id::k)) cs) W:=hE.cg rfl (λ_ _=>stepG_inBlock) h
theorem Js(hE:Closed P co E){x:Code}(h:E (G (b.at a (.code x::.inLoop x::k)) cs) W):E (G (b.at a (.code (.loop x)::k)) cs) W:=hE.cg rfl (λ_ _=>stepG_loop) h
theorem lV(hE:Closed P co E){x:Code}(h:E (G (b.at a (.code x::.inLoop x::k)) cs) W):E (G (b.at a (.inLoop x::k)) cs) W:=hE.cg rfl (λ_ _=>stepG_inLoop) h
theorem Qr(hE:Closed P co E){id:Nat}{k':List Item}(hx:exitTo id k=some k')(h:E (G (b.at a k') cs) W):E (G (b.at a (.code (.exit id)::k)) cs) W:=hE.cg rfl (λ_ _=>stepG_exit hx) h
theorem Qs(hE:Closed P co E){c:Operand}{x y:Code}{t:Bool}(hc:a.eval c=.bool t)(h:E (G (b.at a (.code (if t then x else y)::k)) cs) W):E (G (b.at a (.code (.cond c x y)::k)) cs) W:=hE.cg rfl (λ_ _=>stepG_cond hc) h
theorem Jq(hE:Closed P co E){id:Nat}(h:E (G (b.at a (.inRegion ops (List.range ops.size)::k)) cs) W):E (G (b.at a (.code (.region id ops false)::k)) cs) W:=hE.cg rfl (λ_ _=>stepG_region) h
theorem ao(hE:Closed P co E)(h:E (G (b.at a k) cs) W):E (G (b.at a (.inRegion ops []::k)) cs) W:=hE.cg rfl (λ_ _=>stepG_region_end) h
theorem SR(hE:Closed P co E)(h:E (G {b.at a [] with mode:=.returning} cs) W):E (G (b.at a []) cs) W:=hE.cg rfl (λ_ _=>stepG_end) h
theorem SQ(hE:Closed P co E)(hk:b.kind≠.early)(ho:ops[i]? = some o)(hw:Region.wanted o (yielded ops a.tmps)=true)(hr:mM P a o W v)(h:E (G (b.at (a.put o.dst v) (.inRegion ops rest::k)) cs) W):E (G (b.at a (.inRegion ops (i::rest)::k)) cs) W:=
 qR hE hk ho hw (K:=λa' w'=>a'=a.put o.dst v∧Rv W w') ⟨hr.1,λW1 r=>bs (hr.2 W1 r) ⟨rfl,r⟩⟩ λa' w' ⟨e,r⟩=>by rw[e];exact hE.mono h r
theorem Dy(hE:Closed P co E)(hk:b.kind≠.early)(ho:ops[i]? = some o)(hw:Region.wanted o (yielded ops a.tmps)=true)(hn:NS P (execOp a.eval o))(h:∀W1,Rv W W1->∃v W2,(execOp a.eval o).run P W1=.ok (.value v) W2∧E (G (b.at (a.put o.dst v) (.inRegion ops rest::k)) cs) W2):E (G (b.at a (.inRegion ops (i::rest)::k)) cs) W:=
 qR hE hk ho hw (K:=λa' w'=>E (G (b.at a' (.inRegion ops rest::k)) cs) w') ⟨hn,λW1 r=>by obtain⟨v,W2,h1,h2⟩:=h W1 r;exact eL h1 h2⟩ λa' w' h=>h
theorem Qq(hE:Closed P co E)(hk:b.kind≠.early)(ho:ops[i]? = some o)(hw:Region.wanted o (yielded ops a.tmps)=true)(hn:NS P (execOp a.eval o))(h:∀W1,Rv W W1->∃W2,(execOp a.eval o).run P W1=.ok .skip W2∧E (G (b.at (a.put o.dst undef) (.inRegion ops rest::k)) cs) W2):E (G (b.at a (.inRegion ops (i::rest)::k)) cs) W:=
 qR hE hk ho hw (K:=λa' w'=>E (G (b.at a' (.inRegion ops rest::k)) cs) w') ⟨hn,λW1 r=>by obtain⟨W2,h1,h2⟩:=h W1 r;unfold cR;rw[h1];exact h2⟩ λa' w' h=>h
theorem Dz(hE:Closed P co E)(hk:b.kind≠.early)(ho:ops[i]? = some o)(hw:Region.wanted o (yielded ops a.tmps)=true){f:FuncId}{args:Array Value}(hn:NS P (execOp a.eval o))(hr:∀W1,Rv W W1->(execOp a.eval o).run P W1=.ok (.enter f args) W1)
  (h:E (G (Frame.enter P f args .normal) (b.at a (.inRegion ops (i::rest)::k)::cs)) W):E (G (b.at a (.inRegion ops (i::rest)::k)) cs) W:=by
 refine hE.step rfl λW1 r1=>⟨G (Frame.enter P f args .normal) (b.at a (.inRegion ops (i::rest)::k)::cs),W1,λmain S R w hv=>?_,hE.mono h r1⟩
 obtain⟨u,k1,k2,kk,k3⟩:=b7 #[] hn hv (hr W1 r1);refine⟨u,_,stepG_enter ho hw hk k1,k2,kk,λe he=>?_⟩;rcases k3 e (mem_listed he) with q|q;simp at q;exact q
variable {dst:Option Tmp}{ty:TypeId}{pos:String}{after:Array Edge}{guard:Option (Nat×Bool)}
theorem jG{x:Operand}(e:a.eval x=v):mM P a ⟨dst,.move x,ty,pos,after,guard⟩ W v:=⟨trivial,λW1 _=>by rw[<-e];exact Dq⟩
theorem xP{x:Operand}(e:a.eval x=v):mM P a ⟨dst,.assign x,ty,pos,after,guard⟩ W v:=⟨trivial,λW1 _=>by rw[<-e];exact va⟩
theorem lC{op:BinOp}{t yt:TypeId}{x y:Operand}{kx ky:IntKind}{m n:Int}(ex:a.eval x=.int kx m)(ey:a.eval y=.int ky n)(hv:∀w,(binOp op t (.int kx m) (.int ky n)).run P w=.ok v w):mM P a ⟨dst,.binOp op t x y yt,ty,pos,after,guard⟩ W v:=
 ⟨aa (aa (nF _ _ _ _ _ _) λ_=>by rw[ex,ey];exact pa _ _ _ _ _ _) λ_=>trivial,λW1 _=>gW (by rw[ex,ey];exact jP) (by rw[ex,ey];exact hv W1)⟩
theorem DX{w:World}{b off:Nat}{c:Array Value}{e:TypeId}{fz:Nat×Nat}(hb:w.heap[b]? = some (.cells c e fz))(hv:c[off]? = some v):w.cell? ⟨b,off,none⟩=some v:=by unfold World.cell?;simp only[hb];exact hv
theorem iO{t:TypeId}{x:Operand}{d:TypeDesc}{b off:Nat}{c:Array Value}{e:TypeId}{fz:Nat×Nat}(hp:a.eval x=.pointer (some ⟨b,off,none⟩))(hd:P.underlying t=some d)(h1:∀fs,d≠.struct fs)(h2:∀n e,d≠.array n e)(hb:W.heap[b]? = some (.cells c e fz))(hv:c[off]? = some v):mM P a ⟨dst,.load t x,ty,pos,after,guard⟩ W v:=
 ⟨aa (o8 _ _) λ_=>trivial,λW1 r=>zc hp hd h1 h2 (DX (r.heap _ _ hb) hv)⟩
theorem rL{t:TypeId}{x:Operand}{d:TypeDesc}{i:TypeInfo}{b off:Nat}{c:Array Value}{e:TypeId}{fz:Nat×Nat}{cs:List Value}(hp:a.eval x=.pointer (some ⟨b,off,none⟩))(hi:P.info? t=some i)(hd:P.underlying t=some d)(h1:(∃fs,d=.struct fs)∨∃n e,d=.array n e)(hs:i.size=cs.length)(hb:W.heap[b]? = some (.cells c e fz))
  (hv:∀j v,cs[j]? = some v->c[off+j]? = some v):mM P a ⟨dst,.load t x,ty,pos,after,guard⟩ W (.agg cs.toArray):=
 ⟨aa (o8 _ _) λ_=>trivial,λW1 r=>za hp hi hd h1 hs λj v hj=>by rw[bM];exact DX (r.heap _ _ hb) (hv j v hj)⟩
theorem ku{s:TypeId}{x:Operand}{k:Nat}{fs:Array Field}{f:Field}{i:TypeInfo}{p:Addr}(hp:a.eval x=.pointer (some p))(hd:P.underlying s=some (.struct fs))(hf:fs[k]? = some f)(hi:P.info? f.type=some i)(hs:i.size≠0):mM P a ⟨dst,.fieldAddr s x k,ty,pos,after,guard⟩ W (.pointer (some (p.add f.offset))):=
 ⟨aa (by rw[hp];exact sa hd hf hi hs) λ_=>trivial,λW1 _=>zd hp hd hf hi hs⟩
theorem kA{x:Operand}{k:Nat}{vs:Array Value}(hx:a.eval x=.tuple vs)(hv:vs[k]? = some v):mM P a ⟨dst,.extract x k,ty,pos,after,guard⟩ W v:=⟨aa (sc _ _) λ_=>trivial,λW1 _=>sV hx hv⟩
theorem kr{t e:TypeId}{x i:Operand}{k:Int}{len cap:Nat}{b:Addr}{inf:TypeInfo}{kk:IntKind}(hx:a.eval x=.slice (some b) len cap)(hi:a.eval i=.int kk k)(hk:0<=k∧k<len)(hd:P.underlying t=some (.slice e))(UX:P.info? e=some inf) :
  mM P a ⟨dst,.indexAddr t x i,ty,pos,after,guard⟩ W (.pointer (some (b.add (k.toNat*inf.size)))):=⟨aa (rX _ _ _) λ_=>trivial,λW1 _=>iU hx hi hk hd UX⟩
theorem tV{fn:Fn}{first captured:Array Operand} : mM P a ⟨dst,.makeFunc fn first captured,ty,pos,after,guard⟩ W (.func fn (first.map a.eval) (captured.map a.eval)):=⟨trivial,λW1 _=>qo⟩
theorem Hp{c:Call}{x:Operand}{t:TypeId}{p:Option Addr}{len cap:Nat}(hc:c.callee=.builtin .len)(ha:c.args=#[x])(ht:c.argTypes=#[t])(hx:a.eval x=.slice p len cap)(hd:∃e,P.underlying t=some (.slice e)):mM P a ⟨dst,.call c,ty,pos,after,guard⟩ W (goInt len):=by obtain⟨e,hd⟩:=hd;refine⟨?_,λW1 _=>?_⟩;simp only[execOp,resolve,hc];exact aa (m:=Builtin.len_ _ _ _) (Ij _ _ _) λ_=>trivial;have hl:(Builtin.len_ #[t] ty #[.slice p len cap]).run P W1=.ok (goInt len) W1:=kC rfl hd;simp only[execOp,resolve,hc,ha,ht,invoke,builtin,UJ,UI,UH,List.map_toArray,List.map_cons,List.map_nil,hx,hl]
end
end Go.Proofs.YtgigkennhdolpaaGreatDoor
