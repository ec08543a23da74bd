/- Company, 28: the end of a phase with one worker runs to the join, whatever the schedule. Company, 29: the worker's steps in the library; the end of a phase runs to the join. -/
import Derived.Test.YtgigkennhdolpaaGreatDoorM24
namespace Go.Proofs.YtgigkennhdolpaaGreatDoor
open Go.Conc Go.ConcN
open Go.ConcN (sumTo upd sumTo_upd upd_ne upd_same)
open Go.ConcR (KK wgBlock WgAt stA smA rd wr mk DC0)
section
variable {P:Program}{ty:TypeId}{J Wg c:Nat}{X:Wq P ty Wg}{Sst Rm:Nat→Prop}{Fin:Goroutine→Prop}{hFin:∀g,Fin g→g.status=.running}{Zf:Nat→Prop}{zf:Nat→Option Obj}{hZ:Zf Wg}{w0:World}{m m':MK}{mf mf':Nat}{k k':WK}{kf kf':Nat}
 {gs:Array Goroutine} {w w':World} {t:Trace} {S:Nat→Nat→Prop} {V:Nat→World} {rk:Nat→Rk} {q:Nat→Nat} {g g':Goroutine} {es:Array Event} {sl:Option (Nat×Nat)} {Φ:Value→World→Prop} {w00:World} {S0:Nat→Prop}
def Sjn(Wg:Nat)(Sst:Nat→Prop)(b:Nat):Prop:=Sst b∨b=Wg
theorem join_end(hS0:∀b:Nat,S0 b→Sst b∧zf b=w00.heap[b]?∧b≠Wg)(hSst:∀b:Nat,Sst b→S0 b∨w00.heap.size≤b)(hWg:w00.heap.size≤Wg)(hpl:∀(b:Nat) (o:Obj),Zf b→¬Sjn Wg Sst b→zf b=some o→Obj.plain o)
  (HJ:∀g,Fin g→∀w W':World,(∀b:Nat,Zf b→b≠Wg→w.heap[b]? = zf b)→Bas w0 w→View (Sjn Wg Sst) (fun _=>False) w W'→Er P Φ w00 S0 g W')
  (h:bx (cw2 P ty J Wg c X (Sjn Wg Sst) Sst Rm Fin hFin Zf zf hZ w0 .fin mf .gone kf) gs w t S V rk q) (hg:gs[0]? = some g) (hF:Fin g):Ends P Φ (crowd gs w sl) t:=by
 obtain⟨i1,i2,i3,i4,i5,i6⟩:=h.trace
 have hz:∀b:Nat,Zf b→b≠Wg→w.heap[b]? = zf b:=fun b hb hne=>by
  have:=(h.common b hb).2
  change _=zOf ty Wg zf .fin .gone b at this
  unfold zOf at this
  rwa [if_neg hne] at this
 have hv0:=h.view 0 (.inl rfl)
 have hlow:∀b:Nat,S 0 b→b<w.heap.size:=fun b hb=>by rw[hv0.size];exact hv0.low (.inl hb)
 have hv:=iZ (S:=Sjn Wg Sst) (R:=fun _=>False) (w:=w) (fun b o hb ho=>by
  by_cases hs:S 0 b
  ·have hne:b≠Wg:=fun e=>hb (.inr e)
   exact hpl b o (i4 b hs) hb (by rw[←hz b (i4 b hs) hne];exact ho)
  ·by_cases hr:Rm b
   ·obtain⟨cs,t,fr,hi,e,-,-⟩:=hv0.lent b hs hr
    rw[ho] at e
    obtain rfl:=Oi e
    trivial
   ·exact hv0.plain b o (by rw[←hv0.same b hs hr];exact ho)) (fun b hb=>by
  rcases hb with hb|rfl
  ·exact hlow b (i5 b hb)
  ·exact i6) (fun b _ hb=>hb.elim)
 refine HJ g hF w _ hz h.base hv _ (Rv.refl _) (Nat.le_trans (Nat.le_trans hWg (Nat.le_of_lt i6)) (Nat.le_of_eq hv.size)) _ w gs sl t hv ⟨fun b hb=>?_,fun b hb=>?_⟩ hg ⟨⟨q,⟨fun j y hj hy=>h.old j y (fun x=>by rcases x with x|x<;>exact absurd (show j=0 from x) (by omega)) hy,h.above⟩⟩,⟨fun l=>∃a:Addr,l=.cell a∧Sjn Wg Sst a.block,⟨i1.clean,fun k a hk hm=>?_,fun k g hg hne hc=>?_,i2.d0,i1.seen⟩,fun l hl=>hl⟩,i2.norel⟩
 ·obtain⟨a1,a2,a3⟩:=hS0 b hb
  exact⟨.inl a1,by rw[hz b (i4 b (i5 b a1)) a3];exact a2⟩
 ·rcases hb with hb|rfl
  ·exact hSst b hb
  ·exact .inr hWg
 ·obtain⟨b,hb⟩:=mu hm
  rcases i2.all k a hk b hb with x|x|⟨x1,⟨ad,x2⟩,x3,-⟩
  ·exact .inl x
  ·exact absurd (x.1 rfl) (by simp[MK.joined])
  ·refine .inr ⟨⟨ad,x2,?_⟩,x1⟩
   rw[blk_of x2 hb];exact x3
 ·obtain⟨x,hx,hm,-⟩:=id hc
  obtain⟨b,hb⟩:=mu hm
  rcases i2.all k x hx b hb with y|y|⟨-,-,-,y⟩
  ·obtain⟨p,z,h1,h2,h3⟩:=y
   refine⟨p,by simp[Trace.g?,h1,h2],?_⟩
   rcases h3 with rfl|h3
   ·have:t.g? k=some 0:=by simp[Trace.g?,h1,h2]
    rw[this] at hg
    exact absurd (Oi hg).symm hne
   ·exact h3
  ·exact absurd (y.1 rfl) (by simp[MK.joined])
  ·exact y g hg hne hc
theorem gV(h:cW m k)(hm:m=.ld2∨m=.ke∨m=.aq∨m=.fin∨m=.fini):k=.gone:=by
 cases k<;>first|rfl|(exfalso;rcases hm with rfl|rfl|rfl|rfl|rfl<;>simp[cW] at h)
theorem val_pre(hok:cW m k)(hk:k≠.gone)(hm:m=.ld∨m=.cas):stV m k=KK∧smV m k=0:=by
 rcases hm with rfl|rfl<;>cases k<;>first|exact⟨rfl,rfl⟩|exact absurd rfl hk|(exfalso;simp[cW] at hok)
theorem val_cas(hok:cW .ld k)(hk:k≠.gone):stV .cas k=KK∧smV .cas k=0:=by
 cases k<;>first|exact⟨rfl,rfl⟩|exact absurd rfl hk|(exfalso;simp[cW] at hok)
theorem val_wr(hok:cW .cas k)(hk:k≠.gone):stV .wr k=KK+1∧smV .wr k=0:=by
 cases k<;>first|exact⟨rfl,rfl⟩|exact absurd rfl hk|(exfalso;simp[cW] at hok)
theorem ok_kd(hok:cW .kd k):cW .ld k:=by cases k<;>first|trivial|(exfalso;simp[cW] at hok;done)|simp[cW]
theorem ok_ld(hok:cW .ld k):cW .cas k:=by cases k<;>first|trivial|(exfalso;simp[cW] at hok;done)|simp[cW]
theorem ok_cas(hok:cW .cas k):cW .wr k:=by cases k<;>first|trivial|(exfalso;simp[cW] at hok;done)|simp[cW]
theorem ok_wr(hok:cW .wr k):cW .sem k:=by cases k<;>first|trivial|(exfalso;simp[cW] at hok;done)|simp[cW]
theorem val_sem(hk:k≠.gone):smV .sem k=0:=by cases k<;>first|rfl|exact absurd rfl hk
theorem jE(i:Nat)(fn:FuncId)(pos:String)(e1 e2:Event):t++MemOp.ofEvents i fn pos #[e1,e2]=t++#[{g:=i,fn,pos,act:=.ofEvent e1}]++#[{g:=i,fn,pos,act:=.ofEvent e2}]:=by
 rw[ofEvents_eq];apply Array.ext';simp
theorem ofEvents_one(i:Nat)(fn:FuncId)(pos:String)(e1:Event):t++MemOp.ofEvents i fn pos #[e1]=t++#[{g:=i,fn,pos,act:=.ofEvent e1}]:=by
 rw[ofEvents_eq];apply Array.ext';simp
theorem lK(i:Nat)(fn:FuncId)(pos:String)(e1 e2 e3 e4:Event):t++MemOp.ofEvents i fn pos #[e1,e2,e3,e4]=t++#[{g:=i,fn,pos,act:=.ofEvent e1}]++#[{g:=i,fn,pos,act:=.ofEvent e2}]++#[{g:=i,fn,pos,act:=.ofEvent e3}]++#[{g:=i,fn,pos,act:=.ofEvent e4}]:=by
 rw[ofEvents_eq];apply Array.ext';simp
theorem iE(h1:m'.joined=false){op:MemOp} : ∀i,KJ2 J Wg m k t i→KJ2 J Wg m' k (t++#[op]) i:=fun i h=>⟨fun _=>h1,(kj2_app t #[op] i h).2⟩
theorem Xw.mapKJ{KJ KJ':Trace→Nat→Prop}{Sh:Nat→Prop}{dm dw:Nat}(h:Xw J Wg Sh KJ dm dw t)(hk:∀i,KJ t i→Knows t 0 i):Xw J Wg Sh KJ' dm dw t:=
 ⟨h.d0,h.dJ,h.norel,h.wg,fun k a h1 b h2=>(h.all k a h1 b h2).elim .inl fun x=>x.elim (fun y=>.inl (hk k y)) fun y=>.inr (.inr y)⟩
theorem dy{n:Nat}{mm:Mark}(h:mm=.disable∨mm=.enable∨(Wg<n∧(mm=.acquire (stA Wg)∨mm=.releaseMerge (stA Wg)∨mm=.read (smA Wg)∨mm=.write (smA Wg)))):(MemAct.ofEvent (mk mm)).low n:=by
 rcases h with rfl|rfl|⟨h,rfl|rfl|rfl|rfl⟩<;>first|trivial|exact h
set_option maxHeartbeats 4000000 in
theorem kP(hJ:J≠0)(hSh:Sjn Wg Sst Wg){m1:MK}{n1:Nat}(hmm:(m=m1∧mf=n1)∨(m=.own∧m1=.kd))(h1:m1≠.own∧m1≠.fin)(hok:cW m1 k)
  (IH:∀m' mf',(m'.dh<m1.dh∨(m'.dh=m1.dh∧m'.fuel mf'<m1.fuel n1))→cW m' k→∀{gs w sl t S V rk q},bx (cw2 P ty J Wg c X (Sjn Wg Sst) Sst Rm Fin hFin Zf zf hZ w0 m' mf' k kf) gs w t S V rk q→Ends P Φ (crowd gs w sl) t)
  (h:bx (cw2 P ty J Wg c X (Sjn Wg Sst) Sst Rm Fin hFin Zf zf hZ w0 m mf k kf) gs w t S V rk q) (hi:gs[0]? = some g) (hrun:g.status=.running) (hm:QM P ty Wg Fin (k≠.gone) m1 n1 g) (hrk:rk 0=.leaf) :
  ∃m' ops,runT P (crowd gs w sl) 0=(.next m',ops)∧(Ends P Φ m' (t++ops)∨∃gs',m'=crowd gs' w sl∧gs'.size=gs.size∧cN gs'<cN gs∧bx (cw2 P ty J Wg c X (Sjn Wg Sst) Sst Rm Fin hFin Zf zf hZ w0 m mf k kf) gs' w (t++ops) S V rk q):=by
 have hz:w.heap[Wg]? = some (wgBlock ty (stV m1 k) (smV m1 k)):=by
  have:=(h.common Wg hZ).2
  change _=zOf ty Wg zf m k Wg at this
  unfold zOf at this
  rw[if_pos rfl] at this
  rcases hmm with ⟨rfl,-⟩|⟨rfl,rfl⟩
  ·exact this
  ·cases k<;>exact this
 have hI:ivP (jOf J k) Wg (Sjn Wg Sst) Rm m1.deaf (nV J m1 k) (KJ2 J Wg m1 k) (ExK J Wg c w0.heap.size Zf Sst k) S w.heap.size t:=by
  have:=h.trace
  rcases hmm with ⟨rfl,-⟩|⟨rfl,rfl⟩
  ·exact this
  ·cases k<;>exact this
 have hlt:=hI.2.2.2.lt
 have hlive:=dp hz
 have go:∀{m' mf' g' w' es},stepG P true g w=.go g' w' es→Aside Wg w w'→QM P ty Wg Fin (k≠.gone) m' mf' g'→w'.heap[Wg]? = some (wgBlock ty (stV m' k) (smV m' k))→
   ivP (jOf J k) Wg (Sjn Wg Sst) Rm m'.deaf (nV J m' k) (KJ2 J Wg m' k) (ExK J Wg c w0.heap.size Zf Sst k) S w.heap.size (t++MemOp.ofEvents 0 g.frame.fn g.frame.place es)→(m'.dh<m1.dh∨(m'.dh=m1.dh∧m'.fuel mf'<m1.fuel n1))→cW m' k→
   ∃m'' ops,runT P (crowd gs w sl) 0=(.next m'',ops)∧(Ends P Φ m'' (t++ops)∨∃gs',m''=crowd gs' w sl∧gs'.size=gs.size∧cN gs'<cN gs∧bx (cw2 P ty J Wg c X (Sjn Wg Sst) Sst Rm Fin hFin Zf zf hZ w0 m mf k kf) gs' w (t++ops) S V rk q):=by
  intro m' mf' g' w' es a1 a2 a3 a4 a5 a6 a7
  obtain⟨gs',V',rk',b1,b2⟩:=main_go (sl:=sl) h hi a1 a2 a3 a4 a5
  exact⟨_,_,b1,.inl (IH m' mf' a6 a7 b2)⟩
 have idle:∀{g' n'},stepG P true g w=.go g' w #[]→QM P ty Wg Fin (k≠.gone) m1 n' g'→m1.fuel n'<m1.fuel n1→∃m'' ops,runT P (crowd gs w sl) 0=(.next m'',ops)∧(Ends P Φ m'' (t++ops)∨∃gs',m''=crowd gs' w sl∧gs'.size=gs.size∧cN gs'<cN gs∧bx (cw2 P ty J Wg c X (Sjn Wg Sst) Sst Rm Fin hFin Zf zf hZ w0 m mf k kf) gs' w (t++ops) S V rk q):=
  fun a1 a2 a3=>go a1 (Aside.refl _ _) a2 hz (by rw[ofEvents_none];simpa using hI) (.inr ⟨rfl,a3⟩) hok
 -- one operation of the library's
 have op1:∀{dm':Nat} {KJ':Trace→Nat→Prop} (e:Event),((∀b:Addr,MemAct.ofEvent e≠.mark (.release b))∧(MemAct.ofEvent e).low w.heap.size∧((MemAct.ofEvent e).touch? = none∨(∃a wr,MemAct.ofEvent e=.access ⟨.cell a,wr,true⟩∧a.block=Wg)∨∃a:Addr,(MemAct.ofEvent e=.mark (.read a)∨MemAct.ofEvent e=.mark (.write a))∧a.block=Wg))→
   deafBehind m1.deaf #[e]=dm'→(∀i,KJ2 J Wg m1 k t i→KJ' (t++#[({g:=0,fn:=g.frame.fn,pos:=g.frame.place,act:=.ofEvent e} : MemOp)]) i)→ivP (jOf J k) Wg (Sjn Wg Sst) Rm dm' (if jOf J k=0 then dm' else k.deaf) KJ' (ExK J Wg c w0.heap.size Zf Sst k) S w.heap.size (t++MemOp.ofEvents 0 g.frame.fn g.frame.place #[e]):=by
  intro dm' KJ' e he hd hkj
  rw[ofEvents_one]
  have:=iv0 (op:={g:=0,fn:=g.frame.fn,pos:=g.frame.place,act:=.ofEvent e}) (dw:=k.deaf) (KJ':=KJ') hI hSh rfl he hkj
  have ed:deafStep 0 m1.deaf ({g:=0,fn:=g.frame.fn,pos:=g.frame.place,act:=.ofEvent e} : MemOp)=dm':=by
   rw[←hd]
   have:=Deaf_own
   obtain⟨loc,x,y⟩:=e
   cases loc with
   | mark mm=>cases mm<;>simp[deafStep,MemAct.ofEvent,deafBehind]
   | cell a=>simp[deafStep,MemAct.ofEvent,deafBehind]
   | obj r=>cases x<;>cases y<;>simp[deafStep,MemAct.ofEvent,deafBehind]
   | output=>simp[deafStep,MemAct.ofEvent,deafBehind]
   | goroutines=>simp[deafStep,MemAct.ofEvent,deafBehind]
  rwa [ed] at this
 have hcell:∀(a:Addr) (x:Bool),a.block=Wg→((∀b:Addr,MemAct.ofEvent ⟨.cell a,x,true⟩≠.mark (.release b))∧(MemAct.ofEvent ⟨.cell a,x,true⟩).low w.heap.size∧((MemAct.ofEvent ⟨.cell a,x,true⟩).touch? = none∨(∃a' wr,MemAct.ofEvent ⟨.cell a,x,true⟩=.access ⟨.cell a',wr,true⟩∧a'.block=Wg)∨∃a':Addr,(MemAct.ofEvent ⟨.cell a,x,true⟩=.mark (.read a')∨MemAct.ofEvent ⟨.cell a,x,true⟩=.mark (.write a'))∧a'.block=Wg)):=fun a x e=>
  ⟨by simp[MemAct.ofEvent],by show a.block<_;rw[e];exact hlt,.inr (.inl ⟨a,x,rfl,e⟩)⟩
 cases m1 with
 | own=>exact absurd rfl h1.1
 | fin=>exact absurd rfl h1.2
 | kd=>
  rcases bS hm hlive with ⟨-,g',hst,n',hN⟩|⟨n',g',rfl,-,hst,hN⟩
  ·exact go (m':=.ld) (mf':=n') (hst w) (Aside.refl _ _) hN (by rw[hz];cases k<;>rfl) (op1 _ ⟨by simp[mk,MemAct.ofEvent],dy (Wg:=Wg) (.inl rfl),.inl rfl⟩ rfl (iE rfl)) (.inl (by decide)) (ok_kd hok)
  ·exact idle hst hN (by simp[MK.fuel])
 | ld=>
  rcases bS hm hlive with ⟨-,⟨g0,hst0,n0,hN0⟩,⟨g',hst,n',hN⟩⟩|⟨n',g',rfl,-,hst,hN⟩
  ·by_cases hk:k=.gone
   ·subst hk
    exact go (m':=.ke) (mf':=n0) (hst0 w hz) (Aside.refl _ _) hN0 hz (op1 _ (hcell _ _ rfl) rfl (iE rfl)) (.inl (by decide)) trivial
   ·have hk1:=val_pre hok hk (.inl rfl)
    have hk2:=val_cas hok hk
    rw[hk1.1,hk1.2] at hz
    exact go (m':=.cas) (mf':=n') (hst w hz) (Aside.refl _ _) hN (by rw[hz,hk2.1,hk2.2]) (op1 _ (hcell _ _ rfl) rfl (iE rfl)) (.inl (by decide)) (ok_ld hok)
  ·exact idle hst hN (by simp[MK.fuel])
 | cas=>
  rcases bS hm hlive with ⟨-,⟨g0,hst0,n0,hN0⟩,⟨g',hst,n',hN⟩⟩|⟨n',g',rfl,-,hst,hN⟩
  ·by_cases hk:k=.gone
   ·subst hk
    exact go (m':=.ld2) (mf':=n') (hst w hz) (Aside.refl _ _) hN hz (op1 _ (hcell _ _ rfl) rfl (iE rfl)) (.inl (by decide)) trivial
   ·have hk1:=val_pre hok hk (.inr rfl)
    have hk2:=val_wr hok hk
    have hz':=hz
    rw[hk1.1,hk1.2] at hz'
    have hset:(w.setCell (stA Wg) (.int .u64 (KK+1))).heap[Wg]? = some (wgBlock ty (KK+1) 0):=Go.ConcR.WgAt.setSt hz' _
    refine go (m':=.wr) (mf':=n0) (hst0 w hz') (Go.Conc.aside_setCell w (stA Wg) _) hN0 (by rw[hset,hk2.1,hk2.2]) ?_ (.inl (by decide)) (ok_cas hok)
    rw[jE]
    have b1:=op1 (rd (stA Wg)) (hcell _ _ rfl) rfl (iE (m':=.wr) rfl)
    rw[ofEvents_one] at b1
    exact iv0 (dw:=k.deaf) b1 hSh rfl (hcell (stA Wg) true rfl) (iE rfl)
  ·exact idle hst hN (by simp[MK.fuel])
 | wr=>
  rcases bS hm hlive with ⟨-,g',hst,n',hN⟩|⟨n',g',rfl,-,hst,hN⟩
  ·exact go (m':=.sem) (mf':=n') (hst w) (Aside.refl _ _) (.inl hN) (by rw[hz];cases k<;>rfl) (op1 _ ⟨by simp[mk,MemAct.ofEvent],dy (Wg:=Wg) (.inr (.inr ⟨hlt,by simp⟩)),.inr (.inr ⟨smA Wg,.inr rfl,rfl⟩)⟩ rfl (iE rfl)) (.inl (by decide)) (ok_wr hok)
  ·exact idle hst hN (by simp[MK.fuel])
 | sem=>
  rcases hm with hm|⟨-,g0,rfl,-⟩
  ·rcases bS hm hlive with hA|⟨n',g',rfl,-,hst,hN⟩
   ·obtain⟨-,hoff,hwait,g',hst,n',hN⟩:=id hA
    by_cases hk:k=.gone
    ·subst hk
     have hset:(w.setCell (smA Wg) (.int .u32 0)).heap[Wg]? = some (wgBlock ty 0 0):=Go.ConcR.WgAt.setSm hz _
     refine go (m':=.ld2) (mf':=n') (hst w hz) (Go.Conc.aside_setCell w (smA Wg) _) hN hset ?_ (.inl (by decide)) trivial
     unfold semEvents
     rw[lK]
     have b1:=op1 (mk .disable) ⟨by simp[mk,MemAct.ofEvent],dy (Wg:=Wg) (.inl rfl),.inl rfl⟩ rfl (iE (m':=.ld2) rfl)
     rw[ofEvents_one] at b1
     have b2:=iv0 (op:={g:=0,fn:=g.frame.fn,pos:=g.frame.place,act:=.ofEvent ⟨.cell (smA Wg),false,true⟩}) (dw:=WK.gone.deaf) b1 hSh rfl (hcell (smA Wg) false rfl) (iE (m':=.ld2) rfl)
     have b3:=iv0 (op:={g:=0,fn:=g.frame.fn,pos:=g.frame.place,act:=.ofEvent ⟨.cell (smA Wg),true,true⟩}) (dw:=WK.gone.deaf) b2 hSh rfl (hcell (smA Wg) true rfl) (iE (m':=.ld2) rfl)
     exact iv0 (op:={g:=0,fn:=g.frame.fn,pos:=g.frame.place,act:=.ofEvent (mk .enable)}) (dw:=WK.gone.deaf) b3 hSh rfl ⟨by simp[mk,MemAct.ofEvent],dy (Wg:=Wg) (.inr (.inl rfl)),.inl rfl⟩ (iE rfl)
    ·have hs0:=val_sem hk
     have hst2:=hwait w ⟨_,by rw[hs0] at hz;exact hz⟩
     have hme:m=.sem∧mf=n1:=by rcases hmm with x|⟨-,x⟩;exact x;cases x
     obtain⟨rfl,rfl⟩:=hme
     have hrunT:=runT_crowd_go (P:=P) (sl:=sl) (i:=0) hi hst2
     have hwk:gs.map (woken P g {g with status:=.blocked} w)=gs:=by
      have:woken P g {g with status:=.blocked} w=id:=by funext o;simp[woken]
      rw[this,Array.map_id]
     rw[hwk] at hrunT
     refine⟨_,_,hrunT,.inr ⟨_,rfl,by simp,runners_set hi hrun (by simp),?_⟩⟩
     rw[ofEvents_none]
     have hc:=h.reSet (C':=cw2 P ty J Wg c X (Sjn Wg Sst) Sst Rm Fin hFin Zf zf hZ w0 .sem mf k kf) (u:=#[]) (w':=w) (g':={g with status:=.blocked}) rfl (fun j=>Iff.rfl) rfl (Ch:=fun _=>False) (fun b hb=>hb.elim) (om.refl _ _) (.inl rfl) hi (r:=.leaf) ⟨fun _=>.inr ⟨hk,g,rfl,hA⟩,fun e=>absurd rfl e⟩ (fun j y hj hne hy=>h.walk j y hj hy) (fun b hb=>h.common b hb) (by simp) (by simpa using h.trace) fun j hj=>⟨fun _=>h.still j hj,fun _=>rfl⟩
     have e1:upd rk 0 .leaf=rk:=by
      funext j
      by_cases e:j=0
      ·subst e;rw[upd_same,hrk]
      ·rw[upd_ne rk _ e]
     rw[e1] at hc
     have e2:∀j,j=0∨j=jOf J k→(V j).at w.drawn=V j:=fun j hj=>by
      have:=(h.view j hj).drawn
      show {V j with drawn:=w.drawn} = V j
      rw[this]
     exact⟨fun j y hj hy=>(e2 j hj)▸hc.walk j y hj hy,fun j hj=>(e2 j hj)▸hc.view j hj,hc.apart,hc.common,hc.old,hc.above,hc.trace,hc.still,hc.here,hc.base⟩
   ·exact idle hst (.inl hN) (by simp[MK.fuel])
  ·cases hrun
 | ld2=>
  obtain rfl:=gV hok (.inl rfl)
  rcases bS hm hlive with ⟨-,g',hst,n',hN⟩|⟨n',g',rfl,-,hst,hN⟩
  ·exact go (m':=.ke) (mf':=n') (hst w hz) (Aside.refl _ _) hN hz (op1 _ (hcell _ _ rfl) rfl (iE rfl)) (.inl (by decide)) trivial
  ·exact idle hst hN (by simp[MK.fuel])
 | ke=>
  obtain rfl:=gV hok (.inr (.inl rfl))
  rcases bS hm hlive with ⟨-,g',hst,n',hN⟩|⟨n',g',rfl,-,hst,hN⟩
  ·exact go (m':=.aq) (mf':=n') (hst w) (Aside.refl _ _) hN hz (op1 _ ⟨by simp[mk,MemAct.ofEvent],dy (Wg:=Wg) (.inr (.inl rfl)),.inl rfl⟩ rfl (iE rfl)) (.inl (by decide)) trivial
  ·exact idle hst hN (by simp[MK.fuel])
 | aq=>
  obtain rfl:=gV hok (.inr (.inr (.inl rfl)))
  rcases bS hm hlive with ⟨-,g',hst,n',hN⟩|⟨n',g',rfl,-,hst,hN⟩
  ·have b1:=op1 (KJ':=KJ2 J Wg .aq .gone) (mk (.acquire (stA Wg))) ⟨by simp[mk,MemAct.ofEvent],dy (Wg:=Wg) (.inr (.inr ⟨hlt,by simp⟩)),.inl rfl⟩ rfl (iE rfl)
   refine go (m':=.fin) (mf':=n') (hst w) (Aside.refl _ _) hN hz ⟨b1.1,b1.2.1.mapKJ fun i hi=>?_,b1.2.2⟩ (.inl (by decide)) trivial
   rw[ofEvents_one] at hi b1 ⊢
   obtain⟨-,p,⟨y,y1,y2,y3⟩,hb⟩:=hi
   have hlast:(t++#[({g:=0,fn:=g.frame.fn,pos:=g.frame.place,act:=.ofEvent (mk (.acquire (stA Wg)))} : MemOp)])[t.size]? = some {g:=0,fn:=g.frame.fn,pos:=g.frame.place,act:=.ofEvent (mk (.acquire (stA Wg)))}:=by
    rw[Array.getElem?_append_right (Nat.le_refl _)];simp
   have hps:p≠t.size:=fun e=>by
    rw[e,hlast] at y1
    obtain rfl:=Oi y1
    simp[mk,MemAct.ofEvent] at y2
   have hpl:p<t.size:=by
    have:=lt_size_of_getElem? y1
    simp at this
    omega
   have hkn:=knows_acquired (a:=stA Wg) hpl y1 hlast (.inr y2) rfl (fun k=>b1.2.1.norel k _) y3 (by rw[deaf_old (Nat.le_refl _)];exact hI.2.1.d0)
   exact Knows.of_before hb hkn
  ·exact idle hst hN (by simp[MK.fuel])
 | fini=>
  obtain rfl:=gV hok (.inr (.inr (.inr (.inr rfl))))
  obtain⟨hm,hnf⟩:=hm
  rcases bS hm hlive with hF|⟨n',g',rfl,-,hst,hN⟩
  ·exact absurd hF hnf
  ·have hx:Xw (jOf J .gone) Wg (Sjn Wg Sst) (KJ2 J Wg .fin .gone) MK.fin.deaf (nV J .fin .gone) t:=hI.2.1.mapKJ fun i hi=>absurd (hi.1 rfl) (by simp[MK.joined])
   refine go (m':=.fin) (mf':=n') hst (Aside.refl _ _) hN hz ?_ (.inr ⟨rfl,by simp[MK.fuel];omega⟩) trivial
   rw[ofEvents_none,Array.append_empty]
   exact⟨hI.1,hx,hI.2.2⟩
end
open Go.ConcN (sumTo upd sumTo_upd upd_ne upd_same)
open Go.ConcR (KK wgBlock WgAt stA smA rd wr mk DC0)
section
variable {P:Program}{ty:TypeId}{J Wg c:Nat}{X:Wq P ty Wg}{Sst Rm:Nat→Prop}{Fin:Goroutine→Prop}{hFin:∀g,Fin g→g.status=.running}{Zf:Nat→Prop}{zf:Nat→Option Obj}{hZ:Zf Wg}{w0:World}{m m':MK}{mf mf':Nat}{k k':WK}{kf kf':Nat}
 {gs:Array Goroutine} {w w':World} {t:Trace} {S:Nat→Nat→Prop} {V:Nat→World} {rk:Nat→Rk} {q:Nat→Nat} {g g':Goroutine} {es:Array Event} {sl:Option (Nat×Nat)} {Φ:Value→World→Prop} {w00:World} {S0:Nat→Prop}
theorem val_cnt(hk:k=.rel∨k=.k1∨k=.dec):stV m k=(if m.reg then KK+1 else KK)∧smV m k=0:=by rcases hk with rfl|rfl|rfl<;>exact⟨rfl,rfl⟩
theorem okMW_cnt(hok:cW m k)(hk:k=.rel∨k=.k1∨k=.dec):cW m .k1∧cW m .dec:=by rcases hk with rfl|rfl|rfl<;>exact⟨hok,hok⟩
theorem reg_of(hok:cW m .dec)(hr:m.reg=true):m=.wr∨m=.sem:=by
 rcases hok with rfl|rfl|rfl|rfl|rfl|rfl<;>simp[MK.reg] at hr ⊢
theorem joined_of(hok:cW m k)(hk:k≠.gone):m.joined=false:=by
 cases m<;>first|rfl|(exfalso;cases k<;>simp[cW] at hok hk)
theorem wg_of(h:bx (cw2 P ty J Wg c X (Sjn Wg Sst) Sst Rm Fin hFin Zf zf hZ w0 m mf k kf) gs w t S V rk q):w.heap[Wg]? = some (wgBlock ty (stV m k) (smV m k)):=by
 have:=(h.common Wg hZ).2
 change _=zOf ty Wg zf m k Wg at this
 unfold zOf at this
 rwa [if_pos rfl] at this
set_option maxHeartbeats 4000000 in
theorem work_case(hJ:J≠0)(hSh:Sjn Wg Sst Wg)(hkl:k.lib=true)(hok:cW m k)
  (IH:∀k' kf',(k'.dh<k.dh∨(k'.dh=k.dh∧kf'<kf))→k'.walks=false→cW m k'→∀{gs w sl t S V rk q},bx (cw2 P ty J Wg c X (Sjn Wg Sst) Sst Rm Fin hFin Zf zf hZ w0 m mf k' kf') gs w t S V rk q→Ends P Φ (crowd gs w sl) t)
  (h:bx (cw2 P ty J Wg c X (Sjn Wg Sst) Sst Rm Fin hFin Zf zf hZ w0 m mf k kf) gs w t S V rk q) (hi:gs[J]? = some g) (hm:QW P ty Wg X.R X.D k kf g (V J)) :
  ∃m' ops,runT P (crowd gs w sl) J=(.next m',ops)∧Ends P Φ m' (t++ops):=by
 have hz:=wg_of h
 have hk:k≠.gone:=fun e=>by rw[e] at hkl;cases hkl
 have ej:=jOf_J (J:=J) hk
 have hI:ivP J Wg (Sjn Wg Sst) Rm m.deaf k.deaf (KJ2 J Wg m k) (ExK J Wg c w0.heap.size Zf Sst k) S w.heap.size t:=by
  have:=h.trace
  change ivP (jOf J k) Wg (Sjn Wg Sst) Rm m.deaf (nV J m k) (KJ2 J Wg m k) (ExK J Wg c w0.heap.size Zf Sst k) S w.heap.size t at this
  unfold nV at this
  rwa [ej,if_neg hJ] at this
 have hlt:=hI.2.2.2.lt
 have hlive:=dp hz
 have hjn:=joined_of hok hk
 have hex:∀k2:WK,k2.walks=false→ExK J Wg c w0.heap.size Zf Sst k2=Ex2 Wg Zf Sst:=fun k2 h2=>by funext a b;unfold ExK;rw[if_neg (by rw[h2];decide)]
 have hkw:k.walks=false:=by cases k<;>first|rfl|cases hkl
 rw[hex k hkw] at hI
 have go:∀{k' kf' g' w' es},k'.lib=true→stepG P false g w=.go g' w' es→Aside Wg w w'→QW P ty Wg X.R X.D k' kf' g' (V J)→w'.heap[Wg]? = some (wgBlock ty (stV m k') (smV m k'))→
   ivP J Wg (Sjn Wg Sst) Rm m.deaf k'.deaf (KJ2 J Wg m k') (Ex2 Wg Zf Sst) S w.heap.size (t++MemOp.ofEvents J g.frame.fn g.frame.place es)→(k'.dh<k.dh∨(k'.dh=k.dh∧kf'<kf))→cW m k'→
   ∃m'' ops,runT P (crowd gs w sl) J=(.next m'',ops)∧Ends P Φ m'' (t++ops):=by
  intro k' kf' g' w' es a0 a1 a2 a3 a4 a5 a6 a7
  have hw':k'.walks=false:=by cases k'<;>first|rfl|cases a0
  obtain⟨gs',V',rk',b1,b2⟩:=work_go (sl:=sl) h hJ hkl a0 hi a1 a2 a3 a4 (by rw[hex k' hw'];exact a5)
  exact⟨_,_,b1,IH k' kf' a6 hw' a7 b2⟩
 have idle:∀{g' n'},stepG P false g w=.go g' w #[]→QW P ty Wg X.R X.D k n' g' (V J)→n'<kf→∃m'' ops,runT P (crowd gs w sl) J=(.next m'',ops)∧Ends P Φ m'' (t++ops):=
  fun a1 a2 a3=>go hkl a1 (Aside.refl _ _) a2 hz (by rw[ofEvents_none,Array.append_empty];exact hI) (.inr ⟨rfl,a3⟩) hok
 have hcell:∀(a:Addr) (x:Bool) (dw:Nat),dw≠0→a.block=Wg→((∀b:Addr,MemAct.ofEvent ⟨.cell a,x,true⟩≠.mark (.release b))∧(MemAct.ofEvent ⟨.cell a,x,true⟩).low w.heap.size∧((MemAct.ofEvent ⟨.cell a,x,true⟩).touch? = none∨(∃a' wr,MemAct.ofEvent ⟨.cell a,x,true⟩=.access ⟨.cell a',wr,true⟩∧a'.block=Wg)∧dw≠0)):=fun a x dw hd e=>
  ⟨by simp[MemAct.ofEvent],by show a.block<_;rw[e];exact hlt,.inr ⟨⟨a,x,rfl,e⟩,hd⟩⟩
 have kj:∀{t':Trace} {op:MemOp} {ka kb:WK},ka.walks=false→kb.walks=false→ka≠.rel→kb≠.rel→∀i,KJ2 J Wg m ka t' i→KJ2 J Wg m kb (t'++#[op]) i:=fun {t' op ka kb} ha hb h1 h2 i hi=>by
  obtain⟨p,a,b⟩:∃p,oR Wg t' p∧Before t' i p:=by
   have:=hi.2
   cases ka<;>first|exact this|exact absurd rfl h1|cases ha
  have:∃p,oR Wg (t'++#[op]) p∧Before (t'++#[op]) i p:=⟨p,a.app,b.app _⟩
  refine⟨fun _=>hjn,?_⟩
  cases kb<;>first|exact this|exact absurd rfl h2|cases hb
 cases k with
 | gone=>exact absurd rfl hk
 | rc=>cases hkl
 | dn=>cases hkl
 | rel=>
  rcases bS hm hlive with ⟨-,g',hst,n',hN⟩|⟨n',g',rfl,-,hst,hN⟩
  ·refine go (k':=.k1) (kf':=n') (by decide) (hst w) (Aside.refl _ _) hN (by rw[hz];rfl) ?_ (.inl (by decide)) (okMW_cnt hok (.inl rfl)).1
   rw[ofEvents_one]
   refine ivJ (op:={g:=J,fn:=g.frame.fn,pos:=g.frame.place,act:=.ofEvent (mk (.releaseMerge (stA Wg)))}) hI hJ hSh rfl ⟨by simp[mk,MemAct.ofEvent],dy (Wg:=Wg) (.inr (.inr ⟨hlt,by simp⟩)),.inl rfl⟩ fun i hi=>⟨fun _=>hjn,t.size,?_,?_⟩
   ·exact⟨{g:=J,fn:=g.frame.fn,pos:=g.frame.place,act:=.ofEvent (mk (.releaseMerge (stA Wg)))},by rw[Array.getElem?_append_right (Nat.le_refl _)];simp,rfl,by rw[deaf_old (Nat.le_refl _)];exact hI.2.1.dJ⟩
   ·have hk1:Knows t J i:=hi.2
    exact .inr (hk1.hb_new (Nat.le_refl _) (y:={g:=J,fn:=g.frame.fn,pos:=g.frame.place,act:=.ofEvent (mk (.releaseMerge (stA Wg)))}) (by rw[Array.getElem?_append_right (Nat.le_refl _)];simp) rfl)
  ·exact idle hst hN (by omega)
 | k1=>
  rcases bS hm hlive with ⟨-,g',hst,n',hN⟩|⟨n',g',rfl,-,hst,hN⟩
  ·refine go (k':=.dec) (kf':=n') (by decide) (hst w) (Aside.refl _ _) hN (by rw[hz];rfl) ?_ (.inl (by decide)) (okMW_cnt hok (.inr (.inl rfl))).2
   rw[ofEvents_one]
   have:=ivJ (op:={g:=J,fn:=g.frame.fn,pos:=g.frame.place,act:=.ofEvent (mk .disable)}) (KJ':=KJ2 J Wg m .dec) hI hJ hSh rfl ⟨by simp[mk,MemAct.ofEvent],dy (Wg:=Wg) (.inl rfl),.inl rfl⟩ (kj rfl rfl (by decide) (by decide))
   rwa [show deafStep J WK.k1.deaf ({g:=J,fn:=g.frame.fn,pos:=g.frame.place,act:=.ofEvent (mk .disable)} : MemOp)=WK.dec.deaf by simp[deafStep,mk,MemAct.ofEvent,WK.deaf]] at this
  ·exact idle hst hN (by omega)
 | dec=>
  rcases bS hm hlive with ⟨-,⟨g1,hst1,n1,hQ⟩,⟨g2,hst2,n2,hN⟩⟩|⟨n',g',rfl,-,hst,hN⟩
  ·have hv:=val_cnt (m:=m) (k:=.dec) (.inr (.inr rfl))
   have two:∀k2:WK,k2.walks=false→k2≠.rel→ivP J Wg (Sjn Wg Sst) Rm m.deaf 1 (KJ2 J Wg m k2) (Ex2 Wg Zf Sst) S w.heap.size (t++MemOp.ofEvents J g.frame.fn g.frame.place #[rd (stA Wg),wr (stA Wg)]):=fun k2 h3 h2=>by
    rw[jE]
    have b1:=ivJ (op:={g:=J,fn:=g.frame.fn,pos:=g.frame.place,act:=.ofEvent (rd (stA Wg))}) (KJ':=KJ2 J Wg m .dec) hI hJ hSh rfl (hcell (stA Wg) false _ (by decide) rfl) (kj rfl rfl (by decide) (by decide))
    exact ivJ (op:={g:=J,fn:=g.frame.fn,pos:=g.frame.place,act:=.ofEvent (wr (stA Wg))}) (KJ':=KJ2 J Wg m k2) b1 hJ hSh rfl (hcell (stA Wg) true _ (by simp[deafStep,rd,MemAct.ofEvent,WK.deaf]) rfl) (kj rfl h3 (by decide) h2)
   by_cases hr:m.reg=true
   ·rw[hv.1,hv.2,if_pos hr] at hz
    have hset:(w.setCell (stA Wg) (.int .u64 1)).heap[Wg]? = some (wgBlock ty 1 0):=Go.ConcR.WgAt.setSt hz _
    exact go (k':=.l1) (kf':=n2) (by decide) (hst2 w hz) (aside_setCell w (stA Wg) _) hN (by rw[hset];rfl) (two .l1 rfl (by decide)) (.inl (by decide)) (reg_of hok hr)
   ·rw[hv.1,hv.2,if_neg hr] at hz
    have hset:(w.setCell (stA Wg) (.int .u64 0)).heap[Wg]? = some (wgBlock ty 0 0):=Go.ConcR.WgAt.setSt hz _
    have hms:m≠.sem:=fun e=>hr (by rw[e];rfl)
    obtain⟨gs',V',q',b1,b2⟩:=work_quit (sl:=sl) (k':=.dec) h hJ hkl hi (hst1 w hz) (aside_setCell w (stA Wg) _) hQ (by rw[(two .dec rfl (by decide)).2.1.dJ]) (by rw[hset];simp[stV,smV,hr]) (fun e=>absurd e hms) (by rw[hex .gone rfl];exact two .gone rfl (by decide))
    exact⟨_,_,b1,IH .gone 0 (.inl (by decide)) rfl trivial b2⟩
  ·exact idle hst hN (by omega)
 | l1=>
  rcases bS hm hlive with ⟨-,g',hst,n',hN⟩|⟨n',g',rfl,-,hst,hN⟩
  ·refine go (k':=.st) (kf':=n') (by decide) (hst w hz) (Aside.refl _ _) hN (by rw[hz];rfl) ?_ (.inl (by decide)) hok
   rw[ofEvents_one]
   exact ivJ (op:={g:=J,fn:=g.frame.fn,pos:=g.frame.place,act:=.ofEvent (rd (stA Wg))}) (KJ':=KJ2 J Wg m .st) hI hJ hSh rfl (hcell (stA Wg) false _ (by decide) rfl) (kj rfl rfl (by decide) (by decide))
  ·exact idle hst hN (by omega)
 | st=>
  rcases bS hm hlive with ⟨-,g',hst,n',hN⟩|⟨n',g',rfl,-,hst,hN⟩
  ·have hset:(w.setCell (stA Wg) (.int .u64 0)).heap[Wg]? = some (wgBlock ty 0 0):=Go.ConcR.WgAt.setSt hz _
   refine go (k':=.rs) (kf':=n') (by decide) (hst w hz) (aside_setCell w (stA Wg) _) hN (by rw[hset];rfl) ?_ (.inl (by decide)) hok
   rw[ofEvents_one]
   exact ivJ (op:={g:=J,fn:=g.frame.fn,pos:=g.frame.place,act:=.ofEvent (wr (stA Wg))}) (KJ':=KJ2 J Wg m .rs) hI hJ hSh rfl (hcell (stA Wg) true _ (by decide) rfl) (kj rfl rfl (by decide) (by decide))
  ·exact idle hst hN (by omega)
 | rs=>
  rcases bS hm hlive with ⟨-,hmw,g',hst,n',hQ⟩|⟨n',g',rfl,-,hst,hN⟩
  ·have hset:(w.setCell (smA Wg) (.int .u32 1)).heap[Wg]? = some (wgBlock ty 0 1):=Go.ConcR.WgAt.setSm hz _
   have four:∀k2:WK,k2.walks=false→k2≠.rel→ivP J Wg (Sjn Wg Sst) Rm m.deaf 1 (KJ2 J Wg m k2) (Ex2 Wg Zf Sst) S w.heap.size (t++MemOp.ofEvents J g.frame.fn g.frame.place (semEvents (smA Wg))):=fun k2 h3 h2=>by
    unfold semEvents
    rw[lK]
    have b1:=ivJ (op:={g:=J,fn:=g.frame.fn,pos:=g.frame.place,act:=.ofEvent (mk .disable)}) (KJ':=KJ2 J Wg m .rs) hI hJ hSh rfl ⟨by simp[mk,MemAct.ofEvent],dy (Wg:=Wg) (.inl rfl),.inl rfl⟩ (kj rfl rfl (by decide) (by decide))
    rw[show deafStep J WK.rs.deaf ({g:=J,fn:=g.frame.fn,pos:=g.frame.place,act:=.ofEvent (mk .disable)} : MemOp)=2 by simp[deafStep,mk,MemAct.ofEvent,WK.deaf]] at b1
    have b2:=ivJ (op:={g:=J,fn:=g.frame.fn,pos:=g.frame.place,act:=.ofEvent ⟨.cell (smA Wg),false,true⟩}) (KJ':=KJ2 J Wg m .rs) b1 hJ hSh rfl (hcell (smA Wg) false _ (by decide) rfl) (kj rfl rfl (by decide) (by decide))
    have b3:=ivJ (op:={g:=J,fn:=g.frame.fn,pos:=g.frame.place,act:=.ofEvent ⟨.cell (smA Wg),true,true⟩}) (KJ':=KJ2 J Wg m .rs) b2 hJ hSh rfl (hcell (smA Wg) true _ (by simp[deafStep,MemAct.ofEvent]) rfl) (kj rfl rfl (by decide) (by decide))
    have b4:=ivJ (op:={g:=J,fn:=g.frame.fn,pos:=g.frame.place,act:=.ofEvent (mk .enable)}) (KJ':=KJ2 J Wg m k2) b3 hJ hSh rfl ⟨by simp[mk,MemAct.ofEvent],dy (Wg:=Wg) (.inr (.inl rfl)),.inl rfl⟩ (kj rfl h3 (by decide) h2)
    rwa [show deafStep J (deafStep J (deafStep J 2 ({g:=J,fn:=g.frame.fn,pos:=g.frame.place,act:=.ofEvent ⟨.cell (smA Wg),false,true⟩} : MemOp)) ({g:=J,fn:=g.frame.fn,pos:=g.frame.place,act:=.ofEvent ⟨.cell (smA Wg),true,true⟩} : MemOp)) ({g:=J,fn:=g.frame.fn,pos:=g.frame.place,act:=.ofEvent (mk .enable)} : MemOp)=1 by simp[deafStep,mk,MemAct.ofEvent]] at b4
   have hreg:m.reg=true:=by rcases hok with rfl|rfl<;>rfl
   obtain⟨gs',V',q',b1,b2⟩:=work_quit (sl:=sl) (k':=.dec) h hJ hkl hi (hst w hz) (aside_setCell w (smA Wg) _) hQ (by rw[(four .dec rfl (by decide)).2.1.dJ]) (by rw[hset];simp[stV,smV,hreg]) (fun _=>hmw) (by rw[hex .gone rfl];exact four .gone rfl (by decide))
   exact⟨_,_,b1,IH .gone 0 (.inl (by decide)) rfl trivial b2⟩
  ·exact idle hst hN (by omega)
theorem e2_runs(hJ:J≠0)(hSh:Sjn Wg Sst Wg)
  (HE:∀{mf kf gs w sl t S V rk q g},bx (cw2 P ty J Wg c X (Sjn Wg Sst) Sst Rm Fin hFin Zf zf hZ w0 .fin mf .gone kf) gs w t S V rk q→gs[0]? = some g→Fin g→Ends P Φ (crowd gs w sl) t) :
  ∀a b c' d:Nat,∀m mf k kf,m.dh=a→m.fuel mf=b→k.dh=c'→kf=d→k.walks=false→cW m k→∀{gs w sl t S V rk q},bx (cw2 P ty J Wg c X (Sjn Wg Sst) Sst Rm Fin hFin Zf zf hZ w0 m mf k kf) gs w t S V rk q→Ends P Φ (crowd gs w sl) t:=by
 intro a
 induction a using Nat.strongRecOn with|ind a iha=>?_
 intro b
 induction b using Nat.strongRecOn with|ind b ihb=>?_
 intro c'
 induction c' using Nat.strongRecOn with|ind c' ihc=>?_
 intro d
 induction d using Nat.strongRecOn with|ind d ihd=>?_
 intro m mf k kf ea eb ec ed hkw hok gs w sl t S V rk q h
 have IHm:∀m' mf',(m'.dh<a∨(m'.dh=a∧m'.fuel mf'<b))→cW m' k→∀{gs w sl t S V rk q},bx (cw2 P ty J Wg c X (Sjn Wg Sst) Sst Rm Fin hFin Zf zf hZ w0 m' mf' k kf) gs w t S V rk q→Ends P Φ (crowd gs w sl) t:=by
  intro m' mf' hl ho gs w sl t S V rk q hc
  rcases hl with hl|⟨e,hl⟩
  ·exact iha _ hl _ _ _ m' mf' k kf rfl rfl rfl rfl hkw ho hc
  ·exact ihb _ hl _ _ m' mf' k kf e rfl rfl rfl hkw ho hc
 by_cases hfin:m=.fin
 ·subst hfin
  obtain rfl:=gV hok (.inr (.inr (.inr (.inl rfl))))
  have hy:gs[0]? = some (gs[0]'(h.here 0 (.inl rfl))):=Array.getElem?_eq_getElem _
  by_cases hF:Fin (gs[0]'(h.here 0 (.inl rfl)))
  ·exact HE h hy hF
  ·have hl0:rk 0=.leaf:=h.still 0 (.inl ⟨rfl,by decide⟩)
   refine IHm .fini mf (.inr ⟨ea,by rw[←eb];simp[MK.fuel]⟩) trivial (h.retell (C':=cw2 P ty J Wg c X (Sjn Wg Sst) Sst Rm Fin hFin Zf zf hZ w0 .fini mf .gone kf) (rk':=rk) rfl (fun _=>Iff.rfl) rfl (fun j y hj hy'=>?_) (fun b hb=>h.common b hb) h.trace fun j hj=>?_)
   ·have hj0:j=0:=by rcases hj with x|x<;>exact x
    subst hj0
    rw[hy] at hy'
    obtain rfl:=Oi hy'
    have hq:=h.walk 0 _ (.inl rfl) hy
    rw[hl0] at hq ⊢
    exact⟨fun _=>⟨hq.1 rfl,hF⟩,fun e=>absurd rfl e⟩
   ·rcases hj with ⟨e,-⟩|⟨-,-,e⟩
    ·rw[e];exact hl0
    ·cases e
 refine jO (C:=cw2 P ty J Wg c X (Sjn Wg Sst) Sst Rm Fin hFin Zf zf hZ w0 m mf k kf) (fun hc=>cw2_live hJ hc) ?_ h
 intro gs w sl t S V rk q i g hc hact hi hrun hl hQ
 by_cases hi0:i=0
 ·subst hi0
  have hm:=hQ.1 rfl
  by_cases hown:m=.own
  ·subst hown
   obtain⟨n1,hm1⟩:=hm
   have hok':cW .kd k:=by cases k<;>simp_all [cW]
   exact kP hJ hSh (m1:=.kd) (n1:=n1) (.inr ⟨rfl,rfl⟩) ⟨by decide,by decide⟩ hok' (fun m' mf' hr ho=>IHm m' mf' (.inl (by rw[←ea];rcases hr with x|⟨x,_⟩<;>simp only[MK.dh] at x ⊢<;>omega)) ho) hc hi hrun hm1 hl
  ·exact kP hJ hSh (.inl ⟨rfl,rfl⟩) ⟨hown,hfin⟩ hok (fun m' mf' hr ho=>IHm m' mf' (by rw[←ea,←eb];exact hr) ho) hc hi hrun hm hl
 ·have hiJ:i=jOf J k:=hact.resolve_left hi0
  obtain⟨e,hk⟩:=nK (J:=J) (k:=k) (by rw[←hiJ];exact hi0)
  have hij:i=J:=hiJ.trans e
  subst hij
  obtain⟨m',ops,b1,b2⟩:=work_case (Φ:=Φ) (sl:=sl) hJ hSh (by cases k<;>first|rfl|exact absurd rfl hk|cases hkw) hok (fun k' kf' hr hw' ho=>by
   intro gs w sl t S V rk q hc
   rcases hr with hr|⟨e1,e2⟩
   ·exact ihc _ (by rw[←ec];exact hr) _ m mf k' kf' ea eb rfl rfl hw' ho hc
   ·exact ihd _ (by rw[←ed];exact e2) m mf k' kf' ea eb (e1.trans ec) rfl hw' ho hc) hc hi (hQ.2 hi0)
  exact⟨m',ops,b1,.inl b2⟩
end
end Go.Proofs.YtgigkennhdolpaaGreatDoor
