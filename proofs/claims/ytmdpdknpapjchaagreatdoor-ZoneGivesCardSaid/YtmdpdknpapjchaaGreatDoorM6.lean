/- Company, 36: the go statement. -/
import Derived.Test.YtmdpdknpapjchaaGreatDoorM5
import Derived.Test.YtmdpdknpapjchaaGreatDoorProg
import Derived.WalkSpells
import Derived.WalkLawsBesides
import Derived.Lib.Hide
set_option linter.all false
namespace Go.Proofs.YtmdpdknpapjchaaGreatDoor
section
open Go.Conc Go.ConcN
open Go.ConcN (sumTo upd sumTo_upd upd_ne upd_same)
open Go.ConcR (KK wgBlock WgAt stA smA rd wr mk DC0)
variable {tm:Bool}{Wg c r s:Nat}{w00:World}
section
variable {P:Program}{ty:TypeId}{Rm:Nat->Prop}{Fa:Goroutine->Prop}{hFa:∀g,Fa g->g.status=.running}{Cl D:Goroutine->World->Prop}{hC:∀{g W W1},Cl g W->Rv W W1->Cl g W1}{hCr:∀g W,Cl g W->g.status=.running}{hD:∀{g W W1},D g W->Rv W W1->D g W1}{hcw:c≠Wg}{vs:List Value}{hQ:∀{g W W1},GoQ P c Rm Cl D vs g W->Rv W W1->GoQ P c Rm Cl D vs g W1}{hQr:∀g W,GoQ P c Rm Cl D vs g W->g.status=.running}{Sst:Nat->Prop}{zs:Nat->Option Obj}{w0:World}{k k':AK}{n n':Nat}{gs:Array Goroutine}{w w' W:World}{t:Trace}{S:Nat->Nat->Prop}{V:Nat->World}{rk:Nat->Rk}{q:Nat->Nat}{g g':Goroutine}{es:Array Event}{sl:Option (Nat×Nat)}{Φ:Value->World->Prop}{S0:Nat->Prop}
open Classical in
set_option maxHeartbeats 4000000 in
theorem Ps(hRS:∀b,Rm b->¬Sst b∧b≠c∧b≠Wg)(h:bC (cwA P ty Wg c Fa hFa (GoQ P c Rm Cl D vs) hQ hQr Sst Rm zs w0 s r tm .ow n) gs w t S V rk q)(hi:gs[0]? = some g)(hm:GoQ P c Rm Cl D vs g (V 0)) :
  ∃Yn S' V' rk' ops,runT P (crowd gs w sl) 0=(.next (crowd Yn w sl),ops)∧gs.size≠0∧bC (cw0 P ty gs.size Wg c Cl D hC hCr hD hcw Sst Rm zs w0 vs false false s r tm) Yn w (t++ops) S' V' rk' q:=by
 obtain⟨-,g1,child,Ya,YL,hg1,hch⟩:=hm;have hI:ivP 0 Wg (YM Wg Sst) Rm 0 0 (λ_ _=>False) (ExA Wg c w0.heap.size Sst) S w.heap.size t:=h.trace;obtain⟨x1,x2,x3,x4,x6,x5⟩:=hI.2.2.2;have hlt0:=h.here 0 (.inl rfl);have hJ:gs.size≠0:=by omega
 obtain⟨J,hJe⟩:∃J,J=gs.size:=⟨_,rfl⟩
 have hv0:=h.view 0 (.inl rfl);have hRn:∀b,Rm b->¬S 0 b:=λb hr hs=>by obtain⟨a1,a2,a3⟩:=hRS b hr;rcases x4 b hs with e|e|e;exact a1 e;exact a2 e;exact a3 e
 let S':Nat->Nat->Prop:=λj b=>if j=0 then b<w.heap.size∧¬Rm b else S 0 b;have Zw:S' 0=λb=>b<w.heap.size∧¬Rm b:=by funext b;exact Xl rfl
 have Zv:∀j,j≠0->S' j=S 0:=λj hj=>by funext b;exact Xk hj
 have Zn:=kD (S:=S' 0) (R:=Rm) (w:=w) (λb o hb ho=>by
  rw[Zw] at hb;have X0:=(E'.1 ho).1;by_cases hr:Rm b;obtain⟨cs,tt,fr,hh,e1,-,-⟩:=hv0.lent b (hRn b hr) hr;rw[ho] at e1;obtain rfl:=Oi e1;trivial;exact P' ⟨X0,hr⟩ hb) (λb hb=>by rw[Zw] at hb;exact hb.1) (λb _ hb=>by
  obtain⟨cs,tt,fr,hh,e1,-,-⟩:=hv0.lent b (hRn b hb) hb;exact⟨cs,tt,fr,e1⟩)
 have hV0:∀b,Rm b->∃cs tt fr hi,w.heap[b]? = some (.cells cs tt fr)∧(V 0).heap[b]? = some (.cells cs tt (0,hi))∧cs.size<=hi:=λb hb=>hv0.lent b (hRn b hb) hb
 -- the starter's new view: the lent blocks as it saw them
 let Wb:World:={mask (S' 0) Rm w with heap:=(mask (S' 0) Rm w).heap.mapIdx λb o=>if Rm b then((V 0).heap[b]?).getD o else o}
 have hWb:∀b:Nat,Wb.heap[b]? = (mask (S' 0) Rm w).heap[b]?.map λo=>if Rm b then((V 0).heap[b]?).getD o else o:=λb=>by show ((mask (S' 0) Rm w).heap.mapIdx _)[b]? = _;simp[Array.getElem?_mapIdx]
 have Y8:Wb.heap.size=(mask (S' 0) Rm w).heap.size:=by show ((mask (S' 0) Rm w).heap.mapIdx _).size=_;simp
 have hbl:∀b:Nat,Rm b->Wb.heap[b]? = (V 0).heap[b]?:=λb hb=>by obtain⟨cs,tt,fr,hh,e1,e2,e3⟩:=hV0 b hb;obtain⟨o,ho⟩:∃o,(mask (S' 0) Rm w).heap[b]? = some o:=(by have hl:b<(mask (S' 0) Rm w).heap.size:=(by rw[<-Zn.size];exact(E'.1 e1).1);exact⟨_,F' hl⟩);rw[hWb,ho,e2];show some (if Rm b then _ else _)=_;rw[Xl hb];rfl
 have hvb:View (S' 0) Rm w Wb:=by
  refine⟨Zn.tape,Zn.drawn,Zn.os,Zn.output,Zn.size.trans Y8.symm,λb h1 h2=>?_,λb h1 h2=>?_,λb h1=>?_,λb o h1=>?_⟩
  ·rw[hWb,Zn.same b h1 h2];cases (mask (S' 0) Rm w).heap[b]? with
   | none=>rfl
   | some o=>show some o=some (if Rm b then _ else _);rw[Xk h2]
  rw[hbl b h2];exact hv0.lent b (hRn b h2) h2;rw[hWb,Zn.pois b h1];rw[Zw] at h1;show some (if Rm b then _ else _)=_;rw[Xk h1.2];rw[hWb] at h1;obtain⟨o',e,rfl⟩:=Option.map_eq_some_iff.1 h1;split;rename_i hb;obtain⟨cs,tt,fr,hh,e1,e2,e3⟩:=hV0 b hb;rw[e2];trivial;exact Zn.plain b o' e
 obtain⟨r1,hr1⟩:=(hg1 _ hbl).dS;obtain⟨r2,ZE⟩:=hch.dS;let V':Nat->World:=λj=>if j=0 then Wb else V 0;have hV'0:V' 0=Wb:=Xl rfl;have hV'J:∀j,j≠0->V' j=V 0:=λj hj=>Xk hj;let rk':Nat->Rk:=λj=>if j=0 then r1 else r2;have XV:=runT_crowd_spawn (P:=P) (sl:=sl) (i:=0) hi (Ya true w);rw[ofEvents_none] at XV;have hops:∀u:Trace,t++((#[]:Trace).push {g:=0,fn:=g.frame.fn,pos:=g.frame.place,act:=.go gs.size} |>.push {g:=gs.size,fn:=child.frame.fn,pos:=g.frame.place,act:=.start})=t++#[({g:=0,fn:=g.frame.fn,pos:=g.frame.place,act:=.go gs.size} : MemOp),{g:=gs.size,fn:=child.frame.fn,pos:=g.frame.place,act:=.start}]:=λ_=>rfl;have hdJ:Deaf t J=0:=h.above J (by rw[hJe];exact F2 _);have hkn:∀i,Knows t 0 i->Knows (t++#[({g:=0,fn:=g.frame.fn,pos:=g.frame.place,act:=.go J} : MemOp),{g:=J,fn:=child.frame.fn,pos:=g.frame.place,act:=.start}]) J i:=λi hk=>Go.ConcN.fork_knows (x:={g:=0,fn:=g.frame.fn,pos:=g.frame.place,act:=.go J}) (y:={g:=J,fn:=child.frame.fn,pos:=g.frame.place,act:=.start}) ⟨rfl,rfl⟩ ⟨rfl,rfl⟩ hI.2.1.d0 hdJ hk;have hdf:∀j,Deaf (t++#[({g:=0,fn:=g.frame.fn,pos:=g.frame.place,act:=.go J} : MemOp),{g:=J,fn:=child.frame.fn,pos:=g.frame.place,act:=.start}]) j=Deaf t j:=λj=>Deaf_quiet λop XZ d=>by simp at XZ;rcases XZ with rfl|rfl<;>rfl
 have hgs:∀(j:Nat) (y:Goroutine),((gs.setIfInBounds 0 g1).push child)[j]? = some y->(j=0∧y=g1)∨(j=J∧y=child)∨(j≠0∧j≠J∧gs[j]? = some y):=λj y hy=>by
  rw[Array.getElem?_push] at hy;by_cases e:j=(gs.setIfInBounds 0 g1).size;rw[Xl e] at hy;exact .inr (.inl ⟨by rw[e,hJe];simp,(Oi hy).symm⟩);rw[Xk e] at hy;rcases lJ hy with ⟨e0,_,rfl⟩|⟨e0,hx⟩
  exact .inl ⟨e0,rfl⟩;exact .inr (.inr ⟨e0,by rw[hJe];simpa using e,hx⟩)
 refine⟨(gs.setIfInBounds 0 g1).push child,S',V',rk',_,XV,hJ,?_⟩;rw[hops t,<-hJe];have hJ0:J≠0:=by rw[hJe];exact hJ
 refine⟨λj y hj hy=>?_,λj hj=>?_,λa b ha hb XW x hx=>?_,λb hb=>?_,λj y hj hy=>?_,λj hj=>?_,?_,λj hj=>?_,λj hj=>?_,h.base⟩
 ·rcases hgs j y hy with ⟨rfl,rfl⟩|⟨rfl,rfl⟩|⟨e0,eJ,_⟩
  rw[hV'0];show ZP P _ (if (0:Nat)=0 then r1 else r2) _ _;rw[Xl rfl];exact er (λa b Y9=>⟨λ_=>Y9,λe=>P' rfl e⟩) hr1;rw[hV'J _ hJ0];show ZP P _ (if j=0 then r1 else r2) _ _;rw[Xk hJ0];exact er (λa b Y9=>⟨λe=>P' e hJ0,λ_=>Y9⟩) ZE;rcases hj with x|x;exact P' x e0;exact P' x eJ
 by_cases e:j=0;subst e;rw[hV'0];exact hvb;rw[hV'J j e,Zv j e];exact hv0;by_cases hr:Rm x;exact .inr (.inr hr);rcases ha with ha|ha;rw[ha,Zw];exact .inl ⟨hx,hr⟩;rcases hb with hb|hb;rw[hb,Zw];exact .inr (.inl ⟨hx,hr⟩);exact P' (ha.trans hb.symm) XW;have hc0:=h.common b hb;refine⟨λj hj=>?_,hc0.2⟩;rcases hc0.1 0 (.inl rfl) with hs0|hr;left;by_cases e:j=0;rw[e,Zw];exact⟨x1 b hs0,λhr=>hRn b hr hs0⟩;rw[Zv j e];exact hs0;exact .inr hr
 ·rcases hgs j y hy with ⟨rfl,rfl⟩|⟨rfl,rfl⟩|⟨e0,eJ,hx⟩
  exact P' (.inl rfl) hj;exact P' (.inr rfl) hj;rw[hdf];exact h.old j y (λz=>by rcases z with z|z<;>exact e0 z) hx
 rw[hdf];exact h.above j (by have:gs.size+1<=j:=(by simpa using hj);omega)
 ·refine⟨?_,⟨(hdf 0).trans hI.2.1.d0,(hdf J).trans hdJ,mY hI.2.1.norel λop XZ a=>?_,λkk a hk hb=>?_,λkk a hk b hb=>?_⟩,λj hj=>?_,?_⟩;exact hI.1.fork (act':=λi=>i=0∨i=J) (S':=S') (R':=λ_=>Rm) (j:=J) (.inl rfl) hI.2.1.d0 hdJ ⟨rfl,rfl⟩ ⟨rfl,rfl⟩ (λb hb=>by rw[Zv J hJ0];exact hb) (λb hb=>.inr hb) (λi hi b hb=>by have Z0:i=0:=(by rcases hi with e|e<;>exact e);rw[Z0] at hb ⊢;rw[Zw];exact⟨x1 b hb,λhr=>hRn b hr hb⟩) (λi hi b hb=>.inr hb) (λi hi=>hi.imp .inl id);simp at XZ;rcases XZ with rfl|rfl<;>exact λe=>by cases e
  ·obtain⟨x,hx,hxa⟩:=touch_of hk;rcases getElem?_append_cases hx with ⟨_,Zy⟩|⟨_,hxu⟩
   obtain⟨y1,y2⟩:=hI.2.1.wg kk a (by rw[touchAt_of Zy];exact hxa) hb;exact⟨λe=>⟨(y1 e).1.app _,hkn _ (y1 e).1⟩,λe=>(y2 e).app _⟩;simp at hxu;rcases hxu with rfl|rfl<;>cases hxa
  ·obtain⟨x,hx,hxa⟩:=touch_of hk;rcases getElem?_append_cases hx with ⟨X0,Zy⟩|⟨_,hxu⟩
   rcases hI.2.1.all kk a (by rw[touchAt_of Zy];exact hxa) b hb with y|y|y;exact .inl (y.app _);exact y.elim;exact .inr (.inr (y.app X0));simp at hxu;rcases hxu with rfl|rfl<;>cases hxa
  by_cases e:j=0;rw[e,Zw];exact⟨x5,λhr=>(hRS _ hr).2.2 rfl⟩;rw[Zv j e];exact hI.2.2.1 0 (.inl rfl);refine⟨λi b hi hb=>?_,λb hb=>⟨?_,?_⟩,⟨?_,?_⟩,λb hb Yi=>?_,λb hb _=>?_,x6,x5⟩;by_cases e:i=0;rw[e,Zw] at hb;exact hb.1;rw[Zv i e] at hb;exact x1 b hb;rw[Zw];exact⟨x1 b (x2 b hb),λhr=>(hRS b hr).1 hb⟩;rw[Zv J hJ0];exact x2 b hb;rw[Zw];exact⟨x1 c x3,λhr=>(hRS c hr).2.1 rfl⟩;rw[Zv J hJ0];exact x3;rw[Zv J hJ0] at Yi;exact x4 b Yi;rw[Zv J hJ0] at hb;exact x4 b hb
 rcases hj with ⟨-,e⟩|⟨-,-,e⟩<;>cases e
 show j<((gs.setIfInBounds 0 g1).push child).size;rw[Array.size_push,Array.size_setIfInBounds];rcases hj with e|e;omega;have:j=J:=e;omega
set_option maxHeartbeats 4000000 in
theorem T7(hRS:∀b,Rm b->¬Sst b∧b≠c∧b≠Wg)(Za:YM Wg Sst Wg)(HE:∀{J:Nat},J≠0->∀{gs w sl t S V rk q},bC (cw0 P ty J Wg c Cl D hC hCr hD hcw Sst Rm zs w0 vs false false s r tm) gs w t S V rk q->Ends P Φ (crowd gs w sl) t) :
  ∀a b:Nat,∀k n,k.dS=a->n=b->∀{gs w sl t S V rk q},bC (cwA P ty Wg c Fa hFa (GoQ P c Rm Cl D vs) hQ hQr Sst Rm zs w0 s r tm k n) gs w t S V rk q->Ends P Φ (crowd gs w sl) t:=by
 intro a
 induction a using Nat.strongRecOn with|ind a iha=>?_
 intro b
 induction b using Nat.strongRecOn with|ind b ihb=>?_
 intro k n ea eb gs w sl t S V rk q h;have IH:∀k' n',(k'.dS<k.dS∨(k'=k∧n'<n))->∀{gs w sl t S V rk q},bC (cwA P ty Wg c Fa hFa (GoQ P c Rm Cl D vs) hQ hQr Sst Rm zs w0 s r tm k' n') gs w t S V rk q->Ends P Φ (crowd gs w sl) t:=by
  intro k' n' hl gs w sl t S V rk q hc;rcases hl with hl|⟨rfl,hl⟩
  exact iha _ (by rw[<-ea];exact hl) _ k' n' rfl rfl hc;exact ihb _ (by rw[<-eb];exact hl) k' n' ea rfl hc
 refine lQ (λhc=>LQ hc) ?_ h;intro gs w sl t S V rk q i g hcr Yx hi XV hl hQ2;have Z0:i=0:=by rcases Yx with e|e<;>exact e
 subst Z0;obtain⟨hm,hW⟩:=hQ2 rfl;have hz:=wgA hcr;have YF:=dX hz;have hI:ivP 0 Wg (YM Wg Sst) Rm k.deaf k.deaf (λ_ _=>False) (ExA Wg c w0.heap.size Sst) S w.heap.size t:=hcr.trace;have X0:=hI.2.2.2.2.2.2.2.2;have go:∀{k' n' g' w' es},k'≠.ow->k≠.ow->stepG P true g w=.go g' w' es->Aside Wg w w'->QA P ty Wg Fa (GoQ P c Rm Cl D vs) k' n' g' (V 0)->w'.heap[Wg]? = some (wgBlock ty k'.val 0)->
   ivP 0 Wg (YM Wg Sst) Rm k'.deaf k'.deaf (λ_ _=>False) (ExA Wg c w0.heap.size Sst) S w.heap.size (t++MemOp.ofEvents 0 g.frame.fn g.frame.place es)->(k'.dS<k.dS∨(k'=k∧n'<n))->
   ∃m'' ops,runT P (crowd gs w sl) 0=(.next m'',ops)∧(Ends P Φ m'' (t++ops)∨∃Yn,m''=crowd Yn w sl∧Yn.size=gs.size∧dc Yn<dc gs∧bC (cwA P ty Wg c Fa hFa (GoQ P c Rm Cl D vs) hQ hQr Sst Rm zs w0 s r tm k n) Yn w (t++ops) S V rk q):=by
  intro k' n' g' w' es hko hko2 a1 a2 a3 a4 a5 a6;obtain⟨Yn,V',rk',b1,b2⟩:=BH (sl:=sl) (k':=k') (n':=n') (rr:=.leaf) hcr hi a1 a2 ⟨a3,λ_=>hW hko2⟩ (λ_=>rfl) a4 a5;exact⟨_,_,b1,.inl (IH k' n' a6 b2)⟩
 have idle:∀{g' n'},k≠.ow->stepG P true g w=.go g' w #[]->QA P ty Wg Fa (GoQ P c Rm Cl D vs) k n' g' (V 0)->n'<n->∃m'' ops,runT P (crowd gs w sl) 0=(.next m'',ops)∧(Ends P Φ m'' (t++ops)∨∃Yn,m''=crowd Yn w sl∧Yn.size=gs.size∧dc Yn<dc gs∧bC (cwA P ty Wg c Fa hFa (GoQ P c Rm Cl D vs) hQ hQr Sst Rm zs w0 s r tm k n) Yn w (t++ops) S V rk q):=
  λa0 a1 a2 a3=>go a0 a0 a1 (Aside.refl _ _) a2 hz (by rw[ofEvents_none,Array.append_empty];exact hI) (.inr ⟨rfl,a3⟩)
 -- on to the own walk
 have own:∀{g' es},k≠.ow->Fa g'->stepG P true g w=.go g' w es->k.val=KK->4<k.dS->
   ivP 0 Wg (YM Wg Sst) Rm 0 0 (λ_ _=>False) (ExA Wg c w0.heap.size Sst) S w.heap.size (t++MemOp.ofEvents 0 g.frame.fn g.frame.place es)->
   ∃m'' ops,runT P (crowd gs w sl) 0=(.next m'',ops)∧(Ends P Φ m'' (t++ops)∨∃Yn,m''=crowd Yn w sl∧Yn.size=gs.size∧dc Yn<dc gs∧bC (cwA P ty Wg c Fa hFa (GoQ P c Rm Cl D vs) hQ hQr Sst Rm zs w0 s r tm k n) Yn w (t++ops) S V rk q):=by
  intro g' es hko hF a1 hv hr a5;obtain⟨r1,hr1⟩:=(hW hko g' hF).dS;obtain⟨Yn,V',rk',b1,b2⟩:=BH (sl:=sl) (k':=.ow) (n':=0) (rr:=r1) hcr hi a1 (Aside.refl _ _) (er (λa b Y9=>⟨Y9,λe=>P' rfl e⟩) hr1) (λe=>P' rfl e) (by rw[hz,hv];rfl) a5;exact⟨_,_,b1,.inl (IH .ow 0 (.inl hr) b2)⟩
 have op1:∀{dm':Nat} (e:Event),((∀b:Addr,MemAct.ofEvent e≠.mark (.release b))∧(MemAct.ofEvent e).low w.heap.size∧((MemAct.ofEvent e).touch? = none∨(∃a wr,MemAct.ofEvent e=.access ⟨.cell a,wr,true⟩∧a.block=Wg)∨∃a:Addr,(MemAct.ofEvent e=.mark (.read a)∨MemAct.ofEvent e=.mark (.write a))∧a.block=Wg))->
   deafStep 0 k.deaf ({g:=0,fn:=g.frame.fn,pos:=g.frame.place,act:=.ofEvent e} : MemOp)=dm'->ivP 0 Wg (YM Wg Sst) Rm dm' dm' (λ_ _=>False) (ExA Wg c w0.heap.size Sst) S w.heap.size (t++MemOp.ofEvents 0 g.frame.fn g.frame.place #[e]):=by
  intro dm' e he hd;rw[ofEvents_one];have:=iv0 (J:=0) (op:={g:=0,fn:=g.frame.fn,pos:=g.frame.place,act:=.ofEvent e}) (dw:=0) (KJ':=λ_ _=>False) (by rw[Xl rfl];exact hI) Za rfl he (λ_ (x:False)=>x.elim);rw[Xl rfl,hd] at this;exact this
 have Yr:∀(a:Addr) (x:Bool),a.block=Wg->((∀b:Addr,MemAct.ofEvent ⟨.cell a,x,true⟩≠.mark (.release b))∧(MemAct.ofEvent ⟨.cell a,x,true⟩).low w.heap.size∧((MemAct.ofEvent ⟨.cell a,x,true⟩).touch? = none∨(∃a' wr,MemAct.ofEvent ⟨.cell a,x,true⟩=.access ⟨.cell a',wr,true⟩∧a'.block=Wg)∨∃a':Addr,(MemAct.ofEvent ⟨.cell a,x,true⟩=.mark (.read a')∨MemAct.ofEvent ⟨.cell a,x,true⟩=.mark (.write a'))∧a'.block=Wg)):=λa x e=>
  ⟨by simp[MemAct.ofEvent],by show a.block<_;rw[e];exact X0,.inr (.inl ⟨a,x,rfl,e⟩)⟩
 cases k with
 | kd=>
  rcases bY hm YF with ⟨-,g',Ya,n',hN⟩|⟨n',g',rfl,-,Ya,hN⟩
  exact go (k':=.add) (n':=n') (by decide) (by decide) (Ya w) (Aside.refl _ _) hN hz (op1 _ ⟨by simp[mk,MemAct.ofEvent],eh (Wg:=Wg) (.inl rfl),.inl rfl⟩ (by simp[deafStep,mk,MemAct.ofEvent,AK.deaf])) (.inl (by decide));exact idle (by decide) Ya hN (by omega)
 | add=>
  rcases bY hm YF with ⟨-,g',Ya,n',hN⟩|⟨n',g',rfl,-,Ya,hN⟩
  have ZD:(w.setCell (stA Wg) (.int .u64 KK)).heap[Wg]? = some (wgBlock ty KK 0):=Go.ConcR.WgAt.setSt hz _;refine go (k':=.sr) (n':=n') (by decide) (by decide) (Ya w hz) (aside_setCell w (stA Wg) _) hN ZD ?_ (.inl (by decide));rw[ly];have b1:=op1 (dm':=1) (rd (stA Wg)) (Yr _ _ rfl) (by simp[deafStep,rd,MemAct.ofEvent,AK.deaf]);rw[ofEvents_one] at b1;have b2:=iv0 (J:=0) (op:={g:=0,fn:=g.frame.fn,pos:=g.frame.place,act:=.ofEvent (wr (stA Wg))}) (dw:=0) (KJ':=λ_ _=>False) (by rw[Xl rfl];exact b1) Za rfl (Yr (stA Wg) true rfl) (λ_ (x:False)=>x.elim);rw[Xl rfl] at b2;exact b2;exact idle (by decide) Ya hN (by omega)
 | sr=>
  rcases bY hm YF with ⟨-,g',Ya,n',hN⟩|⟨n',g',rfl,-,Ya,hN⟩
  exact go (k':=.ke) (n':=n') (by decide) (by decide) (Ya w) (Aside.refl _ _) hN hz (op1 _ ⟨by simp[mk,MemAct.ofEvent],eh (Wg:=Wg) (.inr (.inr ⟨X0,by simp⟩)),.inr (.inr ⟨smA Wg,.inl rfl,rfl⟩)⟩ (by simp[deafStep,mk,MemAct.ofEvent,AK.deaf])) (.inl (by decide));exact idle (by decide) Ya hN (by omega)
 | ke=>
  rcases bY hm YF with ⟨-,g',Ya,n',hN⟩|⟨n',g',rfl,-,Ya,hN⟩
  have b1:=op1 (dm':=0) (mk .enable) ⟨by simp[mk,MemAct.ofEvent],eh (Wg:=Wg) (.inr (.inl rfl)),.inl rfl⟩ (by simp[deafStep,mk,MemAct.ofEvent,AK.deaf]);by_cases hF:Fa g';exact own (by decide) hF (Ya w) rfl (by decide) b1;exact go (k':=.bk) (n':=n') (by decide) (by decide) (Ya w) (Aside.refl _ _) ⟨hN,hF⟩ hz b1 (.inl (by decide));exact idle (by decide) Ya hN (by omega)
 | bk=>
  obtain⟨hm,hnf⟩:=hm;rcases bY hm YF with hF|⟨n',g',rfl,-,Ya,hN⟩
  exact P' hF hnf;have b1:ivP 0 Wg (YM Wg Sst) Rm 0 0 (λ_ _=>False) (ExA Wg c w0.heap.size Sst) S w.heap.size (t++MemOp.ofEvents 0 g.frame.fn g.frame.place #[]):=(by rw[ofEvents_none,Array.append_empty];exact hI);by_cases hF:Fa g';exact own (by decide) hF Ya rfl (by decide) b1;exact idle (by decide) Ya ⟨hN,hF⟩ (by omega)
 | ow=>
  obtain⟨Yn,S',V',rk',ops,b1,b0,b2⟩:=Ps (Cl:=Cl) (D:=D) (sl:=sl) (hC:=hC) (hCr:=hCr) (hD:=hD) (hcw:=hcw) hRS hcr hi hm;exact⟨_,_,b1,.inl (HE b0 b2)⟩
end
section
variable {P:Program}{ty:TypeId}{Rm:Nat->Prop}{lent0:Nat->Option Obj}{F:World->Prop}{Fin Fa:Goroutine->Prop}{vs:List Value}{g:Goroutine}{W:World}{Φ:Value->World->Prop}{S0:Nat->Prop}
theorem phase(hF:∀{W W1},F W->Rv W W1->F W1)(hFin:∀g,Fin g->g.status=.running)(hFa:∀g,Fa g->g.status=.running)(hcw:c≠Wg)(hWg:W.heap[Wg]? = some (wgBlock ty 0 0))(hc:W.heap[c]? = some (.chan 0 #[] false s r tm))(hnew:w00.heap.size<=Wg∧w00.heap.size<=c)
  (hRm:∀b,Rm b->W.heap[b]? = lent0 b∧b≠Wg∧b≠c∧∃cs tt fr,lent0 b=some (.cells cs tt fr)∧cs.size≠0) (hAdd:Uf P true ty Wg Fa g) (hGo:∀g,Fa g->∀W1,Rv W W1->∀Wm,Ud c Wg Rm W1 Wm->Gs P (GoQ P c Rm (ClQ P ty Wg c Fin) (DnQ P ty Wg F) vs) g Wm) (HB:yX P Φ w00 S0 Fin F W Rm lent0 c Wg):Er P Φ w00 S0 g W:=by
 intro W1 r1 Y8 S w gs sl t hv hS h0 hB;obtain⟨n,hAdd⟩:=hAdd;have hWg1:=r1.heap _ _ hWg;have hc1:=r1.heap _ _ hc;have nS:∀{b:Nat} {o:Obj},W1.heap[b]? = some o->o≠tG->¬S b:=λho XW hb=>XW (by have:=hv.pois _ hb;rw[this] at ho;exact(Oi ho).symm);have hSWg:¬S Wg:=nS hWg1 (by simp[tG,wgBlock]);have hSc:¬S c:=nS hc1 (by simp[tG]);have hwg:w.heap[Wg]? = some (wgBlock ty 0 0):=by rw[hv.same Wg hSWg (λx=>x)];exact hWg1
 have hwc:w.heap[c]? = some (.chan 0 #[] false s r tm):=by rw[hv.same c hSc (λx=>x)];exact hc1
 have ZM:∀b,S b->b<w.heap.size:=λb hb=>by rw[hv.size];exact hv.low (.inl hb)
 let S1:Nat->Prop:=λb=>S b∨b=c∨b=Wg;have hR1:∀b,Rm b->¬S b∧∃cs tt fr,w.heap[b]? = some (.cells cs tt fr)∧W1.heap[b]? = some (.cells cs tt fr)∧w.heap[b]? = lent0 b:=λb hb=>by obtain⟨a1,a2,a3,cs,tt,fr,a4,a5⟩:=hRm b hb;have h1:W1.heap[b]? = some (.cells cs tt fr):=r1.heap _ _ (a1.trans a4);have hn:¬S b:=nS h1 (by intro e;injection e with e1;rw[e1] at a5;exact a5 rfl);have h2:w.heap[b]? = some (.cells cs tt fr):=(by rw[hv.same b hn (λx=>x)];exact h1);exact⟨hn,cs,tt,fr,h2,h1,h2.trans a4.symm⟩
 have hm:=kD (S:=S1) (R:=Rm) (w:=w) (λb o hb ho=>hv.plain b o (by rw[<-hv.same b (λx=>hb (.inl x)) (λx=>x)];exact ho)) (λb hb=>by
  rcases hb with hb|rfl|rfl;exact ZM b hb;exact(E'.1 hwc).1
  ·exact(E'.1 hwg).1) (λb _ hb=>by obtain⟨-,cs,tt,fr,e,-⟩:=hR1 b hb;exact⟨cs,tt,fr,e⟩)
 have hRS1:∀b,Rm b->¬S1 b:=λb hb=>by obtain⟨a1,a2,a3,-⟩:=hRm b hb;rintro(x|x|x);exact(hR1 b hb).1 x;exact a3 x;exact a2 x
 have hcut:Ud c Wg Rm W1 (mask S1 Rm w):=by refine⟨hm.os.symm.trans hv.os,hm.tape.symm.trans hv.tape,hm.output.symm.trans hv.output,hm.size.symm.trans hv.size,λb h1 h2 h3=>?_,λb hb=>?_,hm.pois c (.inr (.inl rfl)),hm.pois Wg (.inr (.inr rfl))⟩;by_cases hb:S b;rw[hm.pois b (.inl hb),hv.pois b hb];rw[<-hm.same b (by rintro(x|x|x);exact hb x;exact h1 x;exact h2 x) h3,hv.same b hb (λx=>x)];obtain⟨n1,cs,tt,fr,e1,e2,-⟩:=hR1 b hb;have:=hm.lent b (hRS1 b hb) hb;rw[e1] at this;rw[e2];exact this
 have hDl:∀{g W W1},DnQ P ty Wg F g W->Rv W W1->DnQ P ty Wg F g W1:=λh r=>⟨h.1,hF h.2 r⟩
 have hCl:∀{g W W1},ClQ P ty Wg c Fin g W->Rv W W1->ClQ P ty Wg c Fin g W1:=λ⟨a,b,g',d,e,f⟩ r=>⟨a,b,g',d,e,f.later (λx _=>x) r⟩
 have hCr:∀g W,ClQ P ty Wg c Fin g W->g.status=.running:=λg W h=>h.1;have hQl:∀{g W W1},GoQ P c Rm (ClQ P ty Wg c Fin) (DnQ P ty Wg F) vs g W->Rv W W1->GoQ P c Rm (ClQ P ty Wg c Fin) (DnQ P ty Wg F) vs g W1:=λ⟨a,g1,ch,b,d0,d,e⟩ r=>⟨a,g1,ch,b,λx hx=>by obtain⟨o,ho⟩:=d0 x hx;exact⟨o,r.heap _ _ ho⟩,λW0 hW0=>d W0 λx hx=>by obtain⟨o,ho⟩:=d0 x hx;rw[hW0 x hx,r.heap _ _ ho,ho],e.later (λx y=>ig (D:=DnQ P ty Wg F) (λu v=>hDl u v) x y) r⟩
 have hQr:∀g W,GoQ P c Rm (ClQ P ty Wg c Fin) (DnQ P ty Wg F) vs g W->g.status=.running:=λg W h=>h.1;obtain⟨⟨q,hL⟩,⟨Z9,hP,Za⟩,hqt⟩:=hB;have hcrew:bC (cwA P ty Wg c Fa hFa (GoQ P c Rm (ClQ P ty Wg c Fin) (DnQ P ty Wg F) vs) hQl hQr S Rm (λb=>w.heap[b]?) W s r tm .kd n) gs w t (λ_=>S1) (λ_=>mask S1 Rm w) (λ_=>.leaf) q:=by
  refine⟨λj y hj hy e=>?_,λj hj=>hm,λa b ha hb XW=>?_,λb hb=>⟨λj hj=>?_,?_⟩,λj y hj hy=>hL.old j y (Nat.pos_of_ne_zero λe=>hj (.inl e)) hy,hL.above,?_,λj hj=>rfl,λj hj=>?_,⟨hv.os.trans r1.os,hv.tape.trans r1.tape,hv.output.trans r1.output⟩⟩;subst e;rw[h0] at hy;obtain rfl:=Oi hy;exact⟨hAdd,λ_ g' hg'=>hGo g' hg' W1 r1 _ hcut⟩;exact P' ((by rcases ha with x|x<;>exact x:a=0).trans (by rcases hb with x|x<;>exact x:b=0).symm) XW;rcases hb with x|x|x|x;exact .inl (.inr (.inl x));exact .inl (.inr (.inr x));exact .inl (.inl x);exact .inr x;show _=zA ty Wg c (λb=>w.heap[b]?) s r tm .kd b;unfold zA;by_cases e:b=Wg;rw[Xl e,e];exact hwg;rw[Xk e];by_cases e2:b=c;rw[Xl e2,e2];exact hwc;rw[Xk e2]
  ·refine⟨?_,⟨hP.hears,hP.hears,hqt,λkk a hk hb=>?_,λkk a hk b hb=>?_⟩,λj hj=>.inr (.inr rfl),?_⟩;exact Ov hP (λl hl=>by obtain⟨a,h1,h2⟩:=Za l hl;exact⟨a,h1,.inl h2⟩) (λi hi=>by rcases hi with x|x<;>exact x);have Yq:a.loc.isMemory=true:=(by cases e:a.loc<;>rw[e] at hb<;>first|rfl|cases hb);have hkn:Knows t 0 kk:=(hP.known kk a hk Yq).resolve_right λ⟨x,_⟩=>(by obtain⟨ad,h1,h2⟩:=Za _ x;rw[vd h1 hb] at h2;exact hSWg h2);exact⟨λ_=>⟨hkn,hkn⟩,λ_=>hkn⟩
   ·have Yq:a.loc.isMemory=true:=(by cases e:a.loc<;>rw[e] at hb<;>first|rfl|cases hb);rcases hP.known kk a hk Yq with x|⟨x,x2⟩
    exact .inl x;obtain⟨ad,h1,h2⟩:=Za _ x;refine .inr (.inr ⟨x2,⟨ad,h1⟩,.inl (by rw[<-vd h1 hb];exact h2),λg hg XW hcn=>hP.over kk g hg XW hcn⟩)
   refine⟨λb hb=>?_,λb hb=>.inl hb,.inr (.inl rfl),λb hb=>hb,by rw[hv.size];exact r1.size,(E'.1 hwg).1⟩;rcases hb with hb|rfl|rfl;exact ZM b hb;exact(E'.1 hwc).1;exact(E'.1 hwg).1
  have:j=0:=(by rcases hj with x|x<;>exact x);rw[this];exact(E'.1 h0).1
 refine T7 (Cl:=ClQ P ty Wg c Fin) (D:=DnQ P ty Wg F) (hC:=hCl) (hCr:=hCr) (hD:=hDl) (hcw:=hcw) (λb hb=>⟨(hR1 b hb).1,(hRm b hb).2.2.1,(hRm b hb).2.1⟩) (.inr rfl) (λ{J} hJ=>?_) _ _ .kd n rfl rfl hcrew;intro gs w' sl t S2 V rk q hcr;exact PO (S0:=S0) hJ hF hFin (λb (hb:S b)=>⟨fun(e:b=Wg)=>hSWg (by rw[<-e];exact hb),fun(e:b=c)=>hSc (by rw[<-e];exact hb)⟩) hS.1 hS.2 hnew.1 (λb hb=>by obtain⟨a1,a2,a3,cs,tt,fr,a4,-⟩:=hRm b hb;obtain⟨n1,_,_,_,_,_,e3⟩:=hR1 b hb;exact⟨e3,n1,a2,a3,cs,tt,fr,a4⟩) HB _ vs false false s r tm rfl (by simp) hcr
end
end
section
open Go.Conc
def wpE(E:Goroutine->World->Prop)(b:Frame)(cs:List Frame)(c:Code)(Q:Exit->Act->World->Prop)(a:Act)(W:World):Prop:=
 ∀k:List Item,(∀e a' w',Q e a' w'->OA e∧Ue E b k cs e a' w')->E (G (b.at a (.code c::k)) cs) W
section
variable {P:Program}{co:Bool}{E:Goroutine->World->Prop}{b:Frame}{cs:List Frame}{Q Q':Exit->Act->World->Prop}{a:Act}{W:World}
def c7(f:FuncId):Frame:={ (default:Frame) with fn:=f,kind:=.normal}
theorem iC{f:FuncId}{fn:Func}{c:Code}{args:Array Value}{R:Ending->World->Prop}(hE:Closed P co E)(hf:P.funcs[f]? = some fn)(hb:fn.body=some c)
  (hc:∀e w' fr,R e w'->fr.fn=f->fr.leaving P w' e->E (G fr cs) w')
  (h:wpE E (c7 f) cs c (qL P co fn R) {tmps:=args++Array.replicate (fn.ntmps-args.size) undef,defers:=[]} W):E (G (Frame.enter P f args .normal) cs) W:=by
 have henter:Frame.enter P f args .normal=(c7 f).at {tmps:=args++Array.replicate (fn.ntmps-args.size) undef,defers:=[]} [.code c]:=by simp[Frame.enter,Frame.at,hf,hb,c7]
 rw[henter];have Zm:∀a' w' todo,(a'.defers=[]∧∃v,(results fn a'.tmps).run P w'=.ok v w'∧R (.returned v) w')->E (G { (c7 f).at a' todo with mode:=.returning} cs) w':=by rintro a' w' todo ⟨d,v,hv,hR⟩;exact hc (.returned v) w' _ hR rfl ⟨rfl,d,rfl,fn,hf,hv⟩
 refine h [] λe a' w' hq=>?_;cases e with
 | normal=>exact⟨trivial,hE.cr rfl (λ_ _=>stepG_end) (Zm a' w' [] hq)⟩
 | ret=>exact⟨trivial,λtodo=>Zm a' w' todo hq⟩
 | exit _=>exact hq.elim
 | goto _=>exact hq.elim
 | panic _=>exact hq.elim
 | outgrown=>exact hq.elim
end
end
section
open Go.RowKit
def Gr(a w:World):Prop:=Below a.heap.size a w
theorem Gr.refl(a:World):Gr a a:=Below.refl _ _
theorem Gr.trans{a b c:World}(h:Gr a b)(k:Gr b c):Gr a c:=Below.trans h (Below.mono k (Below.size h))
theorem Gr.alloc{a w:World}(h:Gr a w)(o:Obj):Gr a (w.alloc o):=Below.alloc h (Below.size h) o
theorem Gr.drew{a w:World}(h:Gr a w):Gr a w.drew:=Below.drew h
theorem Gr.size{a w:World}(h:Gr a w):a.heap.size<=w.heap.size:=Below.size h
theorem Gr.cell{a w:World}(h:Gr a w){p:Addr}(hp:p.block<a.heap.size):w.cell? p=a.cell? p:=Below.cell h hp
theorem Gr.Mt{a w:World}(h:Gr a w){p:Addr}{v:Value}(hv:a.cell? p=some v):w.cell? p=some v:=by rw[h.cell (World.block_lt_of_cell? a _ hv)];exact hv
def Zq(w:World)(n:Nat)(cs:Array Value)(t:TypeId):Prop:=w.heap[n]? = some (.cells cs t (0,0))
theorem Zq.new{w:World}{n:Nat}{cs:Array Value}{t:TypeId}(hn:n=w.heap.size):Zq (w.alloc (.cells cs t)) n cs t:=by subst hn;exact heap_alloc_new w _
theorem Zq.cell{w:World}{n:Nat}{cs:Array Value}{t:TypeId}(h:Zq w n cs t)(k:Nat):w.cell? ⟨n,k,none⟩=cs[k]?:=by have h':w.heap[n]? = some (.cells cs t (0,0)):=h;simp[World.cell?,h']
end
end Go.Proofs.YtmdpdknpapjchaaGreatDoor
