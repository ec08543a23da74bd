/- Company, 29: the worker's steps in the. -/
import Derived.Test.YtmdpdknpapjchaaGreatDoorM3
import Derived.Conc.CrowdComm
set_option linter.all false
namespace Go.Proofs.YtmdpdknpapjchaaGreatDoor
open Go.Conc Go.ConcN
open Go.ConcN (sumTo upd sumTo_upd upd_ne upd_same)
open Go.ConcR (KK wgBlock WgAt stA smA rd wr mk DC0)
variable {es:Array Event}{g g':Goroutine}{Fin:Goroutine->Prop}{m m':MK}{J Wg c kf kf' mf mf':Nat}{q:Nat->Nat}{Rm S0 Sst Zf:Nat->Prop}{rk:Nat->Rk}{P:Program}{t:Trace}{ty:TypeId}{k':WK}{w w' w0 w00:World}{hZ:Zf Wg}
section
variable {X:Wq P ty Wg}{hFin:∀g,Fin g->g.status=.running}{zf:Nat->Option Obj}{k:WK}{gs:Array Goroutine}{S:Nat->Nat->Prop}{V:Nat->World}{sl:Option (Nat×Nat)}{Φ:Value->World->Prop}
theorem NF(hk:k=.rel∨k=.k1∨k=.dec):stV m k=(if m.reg then KK+1 else KK)∧smV m k=0:=by rcases hk with rfl|rfl|rfl<;>exact⟨rfl,rfl⟩
theorem zP(X':dC m k)(hk:k=.rel∨k=.k1∨k=.dec):dC m .k1∧dC m .dec:=by rcases hk with rfl|rfl|rfl<;>exact⟨X',X'⟩
theorem Se(X':dC m .dec)(hr:m.reg=true):m=.wr∨m=.sem:=by rcases X' with rfl|rfl|rfl|rfl|rfl|rfl<;>simp[MK.reg] at hr ⊢
theorem Hh(X':dC m k)(hk:k≠.gone):m.joined=false:=by cases m<;>first|rfl|(exfalso;cases k<;>simp[dC] at X' hk)
theorem I1(h:bC (Zd P ty J Wg c X (YM Wg Sst) Sst Rm Fin hFin Zf zf hZ w0 m mf k kf) gs w t S V rk q):w.heap[Wg]? = some (wgBlock ty (stV m k) (smV m k)):=by
 have:=(h.common Wg hZ).2;change _=ZY ty Wg zf m k Wg at this;unfold ZY at this
 rwa [Xl rfl] at this
set_option maxHeartbeats 4000000 in
theorem v9(hJ:J≠0)(Za:YM Wg Sst Wg)(hkl:k.lib=true)(X':dC m k)
  (IH:∀k' kf',(k'.dS<k.dS∨(k'.dS=k.dS∧kf'<kf))->k'.walks=false->dC m k'->∀{gs w sl t S V rk q},bC (Zd P ty J Wg c X (YM Wg Sst) Sst Rm Fin hFin Zf zf hZ w0 m mf k' kf') gs w t S V rk q->Ends P Φ (crowd gs w sl) t)
  (h:bC (Zd P ty J Wg c X (YM Wg Sst) Sst Rm Fin hFin Zf zf hZ w0 m mf k kf) gs w t S V rk q) (hi:gs[J]? = some g) (hm:QW P ty Wg X.R X.D k kf g (V J)) :
  ∃m' ops,runT P (crowd gs w sl) J=(.next m',ops)∧Ends P Φ m' (t++ops):=by
 have hz:=I1 h;have hk:k≠.gone:=λe=>by rw[e] at hkl;cases hkl
 have ej:=uh (J:=J) hk;have hI:ivP J Wg (YM Wg Sst) Rm m.deaf k.deaf (ZO J Wg m k) (ExK J Wg c w0.heap.size Zf Sst k) S w.heap.size t:=by
  have:=h.trace;change ivP (jOf J k) Wg (YM Wg Sst) Rm m.deaf (qB J m k) (ZO J Wg m k) (ExK J Wg c w0.heap.size Zf Sst k) S w.heap.size t at this;unfold qB at this
  rwa [ej,Xk hJ] at this
 have X0:=hI.2.2.2.lt;have YF:=dX hz;have hjn:=Hh X' hk;have hex:∀k2:WK,k2.walks=false->ExK J Wg c w0.heap.size Zf Sst k2=Ex2 Wg Zf Sst:=λk2 h2=>by funext a b;unfold ExK;rw[Xk (by rw[h2];decide)]
 have hkw:k.walks=false:=by cases k<;>first|rfl|cases hkl
 rw[hex k hkw] at hI;have go:∀{k' kf' g' w' es},k'.lib=true->stepG P false g w=.go g' w' es->Aside Wg w w'->QW P ty Wg X.R X.D k' kf' g' (V J)->w'.heap[Wg]? = some (wgBlock ty (stV m k') (smV m k'))->
   ivP J Wg (YM Wg Sst) Rm m.deaf k'.deaf (ZO J Wg m k') (Ex2 Wg Zf Sst) S w.heap.size (t++MemOp.ofEvents J g.frame.fn g.frame.place es)->(k'.dS<k.dS∨(k'.dS=k.dS∧kf'<kf))->dC m k'->
   ∃m'' ops,runT P (crowd gs w sl) J=(.next m'',ops)∧Ends P Φ m'' (t++ops):=by
  intro k' kf' g' w' es a0 a1 a2 a3 a4 a5 a6 a7;have hw':k'.walks=false:=(by cases k'<;>first|rfl|cases a0);obtain⟨Yn,V',rk',b1,b2⟩:=Nz (sl:=sl) h hJ hkl a0 hi a1 a2 a3 a4 (by rw[hex k' hw'];exact a5);exact⟨_,_,b1,IH k' kf' a6 hw' a7 b2⟩
 have idle:∀{g' n'},stepG P false g w=.go g' w #[]->QW P ty Wg X.R X.D k n' g' (V J)->n'<kf->∃m'' ops,runT P (crowd gs w sl) J=(.next m'',ops)∧Ends P Φ m'' (t++ops):=
  λa1 a2 a3=>go hkl a1 (Aside.refl _ _) a2 hz (by rw[ofEvents_none,Array.append_empty];exact hI) (.inr ⟨rfl,a3⟩) X'
 have Yr:∀(a:Addr) (x:Bool) (dw:Nat),dw≠0->a.block=Wg->((∀b:Addr,MemAct.ofEvent ⟨.cell a,x,true⟩≠.mark (.release b))∧(MemAct.ofEvent ⟨.cell a,x,true⟩).low w.heap.size∧((MemAct.ofEvent ⟨.cell a,x,true⟩).touch? = none∨(∃a' wr,MemAct.ofEvent ⟨.cell a,x,true⟩=.access ⟨.cell a',wr,true⟩∧a'.block=Wg)∧dw≠0)):=λa x dw hd e=>
  ⟨by simp[MemAct.ofEvent],by show a.block<_;rw[e];exact X0,.inr ⟨⟨a,x,rfl,e⟩,hd⟩⟩
 have kj:∀{t':Trace} {op:MemOp} {ka kb:WK},ka.walks=false->kb.walks=false->ka≠.rel->kb≠.rel->∀i,ZO J Wg m ka t' i->ZO J Wg m kb (t'++#[op]) i:=λ{t' op ka kb} ha hb h1 h2 i hi=>by
  obtain⟨p,a,b⟩:∃p,rI Wg t' p∧Before t' i p:=(by have:=hi.2;cases ka<;>first|exact this|exact P' rfl h1|cases ha);have:∃p,rI Wg (t'++#[op]) p∧Before (t'++#[op]) i p:=⟨p,a.app,b.app _⟩
  refine⟨λ_=>hjn,?_⟩;cases kb<;>first|exact this|exact P' rfl h2|cases hb
 cases k with
 | gone=>exact P' rfl hk
 | rc=>cases hkl
 | dn=>cases hkl
 | rel=>
  rcases bY hm YF with ⟨-,g',Ya,n',hN⟩|⟨n',g',rfl,-,Ya,hN⟩
  ·refine go (k':=.k1) (kf':=n') (by decide) (Ya w) (Aside.refl _ _) hN (by rw[hz];rfl) ?_ (.inl (by decide)) (zP X' (.inl rfl)).1;rw[ofEvents_one];refine ivJ (op:={g:=J,fn:=g.frame.fn,pos:=g.frame.place,act:=.ofEvent (mk (.releaseMerge (stA Wg)))}) hI hJ Za rfl ⟨by simp[mk,MemAct.ofEvent],eh (Wg:=Wg) (.inr (.inr ⟨X0,by simp⟩)),.inl rfl⟩ λi hi=>⟨λ_=>hjn,t.size,?_,?_⟩
   exact⟨{g:=J,fn:=g.frame.fn,pos:=g.frame.place,act:=.ofEvent (mk (.releaseMerge (stA Wg)))},by rw[Array.getElem?_append_right (F2 _)];simp,rfl,by rw[deaf_old (F2 _)];exact hI.2.1.dJ⟩;have Ze:Knows t J i:=hi.2;exact .inr (Ze.hb_new (F2 _) (y:={g:=J,fn:=g.frame.fn,pos:=g.frame.place,act:=.ofEvent (mk (.releaseMerge (stA Wg)))}) (by rw[Array.getElem?_append_right (F2 _)];simp) rfl)
  exact idle Ya hN (by omega)
 | k1=>
  rcases bY hm YF with ⟨-,g',Ya,n',hN⟩|⟨n',g',rfl,-,Ya,hN⟩
  ·refine go (k':=.dec) (kf':=n') (by decide) (Ya w) (Aside.refl _ _) hN (by rw[hz];rfl) ?_ (.inl (by decide)) (zP X' (.inr (.inl rfl))).2;rw[ofEvents_one];have:=ivJ (op:={g:=J,fn:=g.frame.fn,pos:=g.frame.place,act:=.ofEvent (mk .disable)}) (KJ':=ZO J Wg m .dec) hI hJ Za rfl ⟨by simp[mk,MemAct.ofEvent],eh (Wg:=Wg) (.inl rfl),.inl rfl⟩ (kj rfl rfl (by decide) (by decide))
   rwa [show deafStep J WK.k1.deaf ({g:=J,fn:=g.frame.fn,pos:=g.frame.place,act:=.ofEvent (mk .disable)} : MemOp)=WK.dec.deaf by simp[deafStep,mk,MemAct.ofEvent,WK.deaf]] at this
  exact idle Ya hN (by omega)
 | dec=>
  rcases bY hm YF with ⟨-,⟨g1,hst1,n1,hQ⟩,⟨g2,hst2,n2,hN⟩⟩|⟨n',g',rfl,-,Ya,hN⟩
  have hv:=NF (m:=m) (k:=.dec) (.inr (.inr rfl));have two:∀k2:WK,k2.walks=false->k2≠.rel->ivP J Wg (YM Wg Sst) Rm m.deaf 1 (ZO J Wg m k2) (Ex2 Wg Zf Sst) S w.heap.size (t++MemOp.ofEvents J g.frame.fn g.frame.place #[rd (stA Wg),wr (stA Wg)]):=λk2 h3 h2=>(by rw[ly];have b1:=ivJ (op:={g:=J,fn:=g.frame.fn,pos:=g.frame.place,act:=.ofEvent (rd (stA Wg))}) (KJ':=ZO J Wg m .dec) hI hJ Za rfl (Yr (stA Wg) false _ (by decide) rfl) (kj rfl rfl (by decide) (by decide));exact ivJ (op:={g:=J,fn:=g.frame.fn,pos:=g.frame.place,act:=.ofEvent (wr (stA Wg))}) (KJ':=ZO J Wg m k2) b1 hJ Za rfl (Yr (stA Wg) true _ (by simp[deafStep,rd,MemAct.ofEvent,WK.deaf]) rfl) (kj rfl h3 (by decide) h2));by_cases hr:m.reg=true;rw[hv.1,hv.2,Xl hr] at hz;have ZD:(w.setCell (stA Wg) (.int .u64 1)).heap[Wg]? = some (wgBlock ty 1 0):=Go.ConcR.WgAt.setSt hz _;exact go (k':=.l1) (kf':=n2) (by decide) (hst2 w hz) (aside_setCell w (stA Wg) _) hN (by rw[ZD];rfl) (two .l1 rfl (by decide)) (.inl (by decide)) (Se X' hr);rw[hv.1,hv.2,Xk hr] at hz;have ZD:(w.setCell (stA Wg) (.int .u64 0)).heap[Wg]? = some (wgBlock ty 0 0):=Go.ConcR.WgAt.setSt hz _;have hms:m≠.sem:=λe=>hr (by rw[e];rfl);obtain⟨Yn,V',q',b1,b2⟩:=v8 (sl:=sl) (k':=.dec) h hJ hkl hi (hst1 w hz) (aside_setCell w (stA Wg) _) hQ (by rw[(two .dec rfl (by decide)).2.1.dJ]) (by rw[ZD];simp[stV,smV,hr]) (λe=>P' e hms) (by rw[hex .gone rfl];exact two .gone rfl (by decide));exact⟨_,_,b1,IH .gone 0 (.inl (by decide)) rfl trivial b2⟩;exact idle Ya hN (by omega)
 | l1=>
  rcases bY hm YF with ⟨-,g',Ya,n',hN⟩|⟨n',g',rfl,-,Ya,hN⟩
  refine go (k':=.st) (kf':=n') (by decide) (Ya w hz) (Aside.refl _ _) hN (by rw[hz];rfl) ?_ (.inl (by decide)) X';rw[ofEvents_one];exact ivJ (op:={g:=J,fn:=g.frame.fn,pos:=g.frame.place,act:=.ofEvent (rd (stA Wg))}) (KJ':=ZO J Wg m .st) hI hJ Za rfl (Yr (stA Wg) false _ (by decide) rfl) (kj rfl rfl (by decide) (by decide));exact idle Ya hN (by omega)
 | st=>
  rcases bY hm YF with ⟨-,g',Ya,n',hN⟩|⟨n',g',rfl,-,Ya,hN⟩
  have ZD:(w.setCell (stA Wg) (.int .u64 0)).heap[Wg]? = some (wgBlock ty 0 0):=Go.ConcR.WgAt.setSt hz _;refine go (k':=.rs) (kf':=n') (by decide) (Ya w hz) (aside_setCell w (stA Wg) _) hN (by rw[ZD];rfl) ?_ (.inl (by decide)) X';rw[ofEvents_one];exact ivJ (op:={g:=J,fn:=g.frame.fn,pos:=g.frame.place,act:=.ofEvent (wr (stA Wg))}) (KJ':=ZO J Wg m .rs) hI hJ Za rfl (Yr (stA Wg) true _ (by decide) rfl) (kj rfl rfl (by decide) (by decide));exact idle Ya hN (by omega)
 | rs=>
  rcases bY hm YF with ⟨-,hmw,g',Ya,n',hQ⟩|⟨n',g',rfl,-,Ya,hN⟩
  ·have ZD:(w.setCell (smA Wg) (.int .u32 1)).heap[Wg]? = some (wgBlock ty 0 1):=Go.ConcR.WgAt.setSm hz _;have four:∀k2:WK,k2.walks=false->k2≠.rel->ivP J Wg (YM Wg Sst) Rm m.deaf 1 (ZO J Wg m k2) (Ex2 Wg Zf Sst) S w.heap.size (t++MemOp.ofEvents J g.frame.fn g.frame.place (semEvents (smA Wg))):=λk2 h3 h2=>by
    unfold semEvents;rw[nR];have b1:=ivJ (op:={g:=J,fn:=g.frame.fn,pos:=g.frame.place,act:=.ofEvent (mk .disable)}) (KJ':=ZO J Wg m .rs) hI hJ Za rfl ⟨by simp[mk,MemAct.ofEvent],eh (Wg:=Wg) (.inl rfl),.inl rfl⟩ (kj rfl rfl (by decide) (by decide));rw[show deafStep J WK.rs.deaf ({g:=J,fn:=g.frame.fn,pos:=g.frame.place,act:=.ofEvent (mk .disable)} : MemOp)=2 by simp[deafStep,mk,MemAct.ofEvent,WK.deaf]] at b1;have b2:=ivJ (op:={g:=J,fn:=g.frame.fn,pos:=g.frame.place,act:=.ofEvent ⟨.cell (smA Wg),false,true⟩}) (KJ':=ZO J Wg m .rs) b1 hJ Za rfl (Yr (smA Wg) false _ (by decide) rfl) (kj rfl rfl (by decide) (by decide));have b3:=ivJ (op:={g:=J,fn:=g.frame.fn,pos:=g.frame.place,act:=.ofEvent ⟨.cell (smA Wg),true,true⟩}) (KJ':=ZO J Wg m .rs) b2 hJ Za rfl (Yr (smA Wg) true _ (by simp[deafStep,MemAct.ofEvent]) rfl) (kj rfl rfl (by decide) (by decide));have b4:=ivJ (op:={g:=J,fn:=g.frame.fn,pos:=g.frame.place,act:=.ofEvent (mk .enable)}) (KJ':=ZO J Wg m k2) b3 hJ Za rfl ⟨by simp[mk,MemAct.ofEvent],eh (Wg:=Wg) (.inr (.inl rfl)),.inl rfl⟩ (kj rfl h3 (by decide) h2)
    rwa [show deafStep J (deafStep J (deafStep J 2 ({g:=J,fn:=g.frame.fn,pos:=g.frame.place,act:=.ofEvent ⟨.cell (smA Wg),false,true⟩} : MemOp)) ({g:=J,fn:=g.frame.fn,pos:=g.frame.place,act:=.ofEvent ⟨.cell (smA Wg),true,true⟩} : MemOp)) ({g:=J,fn:=g.frame.fn,pos:=g.frame.place,act:=.ofEvent (mk .enable)} : MemOp)=1 by simp[deafStep,mk,MemAct.ofEvent]] at b4
   have hreg:m.reg=true:=(by rcases X' with rfl|rfl<;>rfl);obtain⟨Yn,V',q',b1,b2⟩:=v8 (sl:=sl) (k':=.dec) h hJ hkl hi (Ya w hz) (aside_setCell w (smA Wg) _) hQ (by rw[(four .dec rfl (by decide)).2.1.dJ]) (by rw[ZD];simp[stV,smV,hreg]) (λ_=>hmw) (by rw[hex .gone rfl];exact four .gone rfl (by decide));exact⟨_,_,b1,IH .gone 0 (.inl (by decide)) rfl trivial b2⟩
  exact idle Ya hN (by omega)
theorem PM(hJ:J≠0)(Za:YM Wg Sst Wg)
  (HE:∀{mf kf gs w sl t S V rk q g},bC (Zd P ty J Wg c X (YM Wg Sst) Sst Rm Fin hFin Zf zf hZ w0 .fin mf .gone kf) gs w t S V rk q->gs[0]? = some g->Fin g->Ends P Φ (crowd gs w sl) t) :
  ∀a b c' d:Nat,∀m mf k kf,m.dS=a->m.fuel mf=b->k.dS=c'->kf=d->k.walks=false->dC m k->∀{gs w sl t S V rk q},bC (Zd P ty J Wg c X (YM Wg Sst) Sst Rm Fin hFin Zf zf hZ w0 m mf k kf) gs w t S V rk q->Ends P Φ (crowd gs w sl) t:=by
 intro a
 induction a using Nat.strongRecOn with|ind a iha=>?_
 intro b
 induction b using Nat.strongRecOn with|ind b ihb=>?_
 intro c'
 induction c' using Nat.strongRecOn with|ind c' ihc=>?_
 intro d
 induction d using Nat.strongRecOn with|ind d ihd=>?_
 intro m mf k kf ea eb ec ed hkw X' gs w sl t S V rk q h;have IHm:∀m' mf',(m'.dS<a∨(m'.dS=a∧m'.fuel mf'<b))->dC m' k->∀{gs w sl t S V rk q},bC (Zd P ty J Wg c X (YM Wg Sst) Sst Rm Fin hFin Zf zf hZ w0 m' mf' k kf) gs w t S V rk q->Ends P Φ (crowd gs w sl) t:=by
  intro m' mf' hl ho gs w sl t S V rk q hc;rcases hl with hl|⟨e,hl⟩
  exact iha _ hl _ _ _ m' mf' k kf rfl rfl rfl rfl hkw ho hc;exact ihb _ hl _ _ m' mf' k kf e rfl rfl rfl hkw ho hc
 by_cases Y5:m=.fin
 ·subst Y5;obtain rfl:=je X' (.inr (.inr (.inr (.inl rfl))));have hy:gs[0]? = some (gs[0]'(h.here 0 (.inl rfl))):=F' _;by_cases hF:Fin (gs[0]'(h.here 0 (.inl rfl)));exact HE h hy hF;have hl0:rk 0=.leaf:=h.still 0 (.inl ⟨rfl,by decide⟩);refine IHm .fini mf (.inr ⟨ea,by rw[<-eb];simp[MK.fuel]⟩) trivial (h.Sb (C':=Zd P ty J Wg c X (YM Wg Sst) Sst Rm Fin hFin Zf zf hZ w0 .fini mf .gone kf) (rk':=rk) rfl (λ_=>Iff.rfl) rfl (λj y hj hy'=>?_) (λb hb=>h.common b hb) h.trace λj hj=>?_);have hj0:j=0:=(by rcases hj with x|x<;>exact x);subst hj0;rw[hy] at hy';obtain rfl:=Oi hy';have hq:=h.walk 0 _ (.inl rfl) hy;rw[hl0] at hq ⊢;exact⟨λ_=>⟨hq.1 rfl,hF⟩,λe=>P' rfl e⟩;rcases hj with ⟨e,-⟩|⟨-,-,e⟩
  rw[e];exact hl0;cases e
 refine lQ (C:=Zd P ty J Wg c X (YM Wg Sst) Sst Rm Fin hFin Zf zf hZ w0 m mf k kf) (λhc=>Bh hJ hc) ?_ h;intro gs w sl t S V rk q i g hc Yx hi XV hl hQ;by_cases Z0:i=0;subst Z0;have hm:=hQ.1 rfl;by_cases YZ:m=.own;subst YZ;obtain⟨n1,hm1⟩:=hm;have hok':dC .kd k:=(by cases k<;>simp_all [dC]);exact m4 hJ Za (m1:=.kd) (n1:=n1) (.inr ⟨rfl,rfl⟩) ⟨by decide,by decide⟩ hok' (λm' mf' hr ho=>IHm m' mf' (.inl (by rw[<-ea];rcases hr with x|⟨x,_⟩<;>simp only[MK.dS] at x ⊢<;>omega)) ho) hc hi XV hm1 hl;exact m4 hJ Za (.inl ⟨rfl,rfl⟩) ⟨YZ,Y5⟩ X' (λm' mf' hr ho=>IHm m' mf' (by rw[<-ea,<-eb];exact hr) ho) hc hi XV hm hl;have hiJ:i=jOf J k:=Yx.resolve_left Z0;obtain⟨e,hk⟩:=qk (J:=J) (k:=k) (by rw[<-hiJ];exact Z0);have hij:i=J:=hiJ.trans e;subst hij;obtain⟨m',ops,b1,b2⟩:=v9 (Φ:=Φ) (sl:=sl) hJ Za (by cases k<;>first|rfl|exact P' rfl hk|cases hkw) X' (λk' kf' hr hw' ho=>by
  intro gs w sl t S V rk q hc;rcases hr with hr|⟨e1,e2⟩
  exact ihc _ (by rw[<-ec];exact hr) _ m mf k' kf' ea eb rfl rfl hw' ho hc
  ·exact ihd _ (by rw[<-ed];exact e2) m mf k' kf' ea eb (e1.trans ec) rfl hw' ho hc) hc hi (hQ.2 Z0)
 exact⟨m',ops,b1,.inl b2⟩
end
open Go.ConcN (sumTo upd sumTo_upd upd_ne upd_same)
open Go.ConcR (KK wgBlock WgAt stA smA rd wr mk DC0)
def Ii(P:Program)(c:Nat)(z:Value)(fr:Frame)(cs:List Frame):Prop:=∀main w,stepG P main (G fr cs) w=.comm (G fr cs) #[rcase c z] true (.recv true) w #[]
def RcQ(P:Program)(c:Nat)(D:Goroutine->World->Prop)(g:Goroutine)(W:World):Prop:=
 ∃fr cs z,(g=G fr cs∨g = {parked (G fr cs) #[rcase c z] (.recv true) with status:=.running})∧Ii P c z fr cs∧Gs P D (Go.Conc.served (G fr cs) (.tuple #[z,.bool false])) W
def DnQ(P:Program)(ty:TypeId)(Wg:Nat)(F:World->Prop)(g:Goroutine)(W:World):Prop:=Nh P ty Wg g∧F W
def pL(P:Program)(ty:TypeId)(Wg c:Nat)(F:World->Prop)(hF:∀{W W1},F W->Rv W W1->F W1):Wq P ty Wg where
 R:=RcQ P c (DnQ P ty Wg F)
 D:=DnQ P ty Wg F
 laterR:=λ⟨fr,cs,z,h1,h2,h3⟩ r=>⟨fr,cs,z,h1,h2,h3.later (λh r=>⟨h.1,hF h.2 r⟩) r⟩
 laterD:=λh r=>⟨h.1,hF h.2 r⟩
 runR:=λg W ⟨fr,cs,z,h1,_⟩=>by rcases h1 with rfl|rfl<;>rfl
 runD:=λg W ⟨⟨n,h⟩,_⟩ w hw=>cN h hw λg h=>h.1
theorem er{Q Q':Goroutine->World->Prop}(hQ:∀g W,Q g W->Q' g W):∀{r:Rk} {g:Goroutine} {W:World},ZP P Q r g W->ZP P Q' r g W:=by
 intro r
 induction r with
 | leaf=>exact λh=>hQ _ _ h
 | mk f ih=>exact λh=>⟨h.1,λW1 r=>by obtain⟨g',W',h1,h2⟩:=h.2 W1 r;exact⟨g',W',h1,ih W1 h2⟩⟩
theorem Q5{n:Nat}{bl bl':Prop}(hb:bl->bl')(h:QM P ty Wg Fin bl m n g):QM P ty Wg Fin bl' m n g:=by cases m<;>first|exact h|exact h.imp id λx=>⟨hb x.1,x.2⟩
theorem Of{z:Value}{fr:Frame}{cs:List Frame}(h:Ii P c z fr cs)(hg:g=G fr cs∨g = {parked (G fr cs) #[rcase c z] (.recv true) with status:=.running})(main:Bool)(w:World) :
  stepG P main g w=.comm (G fr cs) #[rcase c z] true (.recv true) w #[]:=by
 rcases hg with rfl|rfl;exact h main w;rw[stepG_tries];exact h main w
section
variable {F:World->Prop}{hF:∀{W W1},F W->Rv W W1->F W1}{lent0:Nat->Option Obj}{hFin:∀g,Fin g->g.status=.running}{zf:Nat->Option Obj}{k:WK}{gs:Array Goroutine}{S:Nat->Nat->Prop}{V:Nat->World}{sl:Option (Nat×Nat)}{Φ:Value->World->Prop}
def yX(P:Program)(Φ:Value->World->Prop)(w00:World)(S0:Nat->Prop)(Fin:Goroutine->Prop)(F:World->Prop)(w0:World)(Rm:Nat->Prop)(lent0:Nat->Option Obj)(c Wg:Nat):Prop:=
 ∀g,Fin g->∀(Wend W':World) (SJ:Nat->Prop),F Wend->(∀b:Nat,SJ b->Wend.heap[b]? = some (.cells #[] 0 (0,0)))->(∀(b:Nat) (o:Obj),¬SJ b->¬Rm b->Wend.heap[b]? = some o->W'.heap[b]? = some o)->(∀b:Nat,Rm b->W'.heap[b]? = lent0 b)->(∀b:Nat,SJ b->b<w0.heap.size->b=c∨b=Wg∨W'.heap[b]? = some (.cells #[] 0 (0,0)))->W'.heap[Wg]? = some (.cells #[] 0 (0,0))->Bas w0 W'->Er P Φ w00 S0 g W'
theorem OI(h:bC (Zd P ty J Wg c (pL P ty Wg c F hF) (YM Wg Sst) Sst Rm Fin hFin Zf zf hZ w0 m mf k kf) gs w t S V rk q)(i d:Nat):partners (gs.setIfInBounds i ph) d true=[]:=by
 refine partners_nil λj y hy=>?_;rcases getElem?_stand gs i j y hy with ⟨-,rfl⟩|⟨-,hy⟩
 rfl;have hw:=dX (I1 h);by_cases hj:j=0∨j=jOf J k
 ·have hq:=h.walk j y hj hy;cases hr:rk j with
  | mk f=>rw[hr] at hq;exact offersAt_of_not_blocked (by rw[hq.1];decide) d true
  | leaf=>
   rw[hr] at hq;by_cases h0:j=0
   ·subst h0;rcases xI hFin (hq.1 rfl) hw with x|⟨_,_,g0,rfl,h0⟩
    exact offersAt_of_not_blocked (by rw[x];decide) d true;unfold offersAt;rw[show ({g0 with status:=.blocked} : Goroutine).offers=none from h0.2.1]
   have hj':j=jOf J k:=hj.resolve_left h0;obtain⟨e,hk⟩:=qk (J:=J) (k:=k) (by rw[<-hj'];exact h0);have:=CG (pL P ty Wg c F hF).runR (pL P ty Wg c F hF).runD (hq.2 h0) hk hw;exact offersAt_of_not_blocked (by rw[this];decide) d true
 rcases (h.old j y hj hy).status with x|x<;>exact offersAt_of_not_blocked (by rw[x];decide) d true
set_option maxHeartbeats 4000000 in
theorem UI(hJ:J≠0)(hc:Zf c∧c≠Wg∧∃s r tm,zf c=some (.chan 0 #[] true s r tm))(h:bC (Zd P ty J Wg c (pL P ty Wg c F hF) (YM Wg Sst) Sst Rm Fin hFin Zf zf hZ w0 m mf .rc kf) gs w t S V rk q)(hi:gs[J]? = some g)(hQ:RcQ P c (DnQ P ty Wg F) g (V J)) :
  ∃Yn V' rk' ops,runT P (crowd gs w sl) J=(.next (crowd Yn w sl),ops)∧bC (Zd P ty J Wg c (pL P ty Wg c F hF) (YM Wg Sst) Sst Rm Fin hFin Zf zf hZ w0 m mf .dn kf) Yn w (t++ops) S V' rk' q:=by
 obtain⟨fr,cs,z,hg,hrc,hgs⟩:=hQ;obtain⟨r,hr⟩:=hgs.dS;obtain⟨hcz,hcw,s,rr,tm,hcc⟩:=hc;have hchan:w.heap[c]? = some (.chan 0 #[] true s rr tm):=by have:=(h.common c hcz).2;change _=ZY ty Wg zf m .rc c at this;unfold ZY at this;rw[Xk hcw] at this;exact this.trans hcc
 have hJ0:(J==0)=false:=by simpa using hJ
 have XV:=crowd_recv_closed (P:=P) (sl:=sl) hi (by rw[hJ0];exact Of hrc hg false w) hchan (OI h J c);have X0:c<w.heap.size:=(E'.1 hchan).1;refine⟨_,_,_,_,XV,h.Ev (C':=Zd P ty J Wg c (pL P ty Wg c F hF) (YM Wg Sst) Sst Rm Fin hFin Zf zf hZ w0 m mf .dn kf) (w':=w) rfl (λ_=>Iff.rfl) rfl (Ch:=λ_=>False) (λb hb=>hb.elim) (qQ.refl _ _) (i:=J) (.inr rfl) hi (r:=r) (er (λa b Y9=>⟨λe=>P' e hJ,λ_=>Y9⟩) hr) (λj y hj XW hy=>?_) (λb hb=>h.common b hb) (λop XZ=>?_) ?_ λj hj=>?_⟩;have hj0:j=0:=(by rcases hj with x|x;exact x;exact P' x XW);subst hj0;exact er (λa b Y9=>⟨λe=>Q5 (λ_=>by decide) (Y9.1 e),λe=>P' rfl e⟩) (h.walk 0 y hj hy);rw[ofEvents_none] at XZ;simp at XZ;rw[XZ]
 ·have hI:ivP J Wg (YM Wg Sst) Rm m.deaf (qB J m .rc) (ZO J Wg m .rc) (ExK J Wg c w0.heap.size Zf Sst .rc) S w.heap.size t:=h.trace;refine hI.still (λop XZ=>?_) λi hi=>⟨λe=>(by cases e),Knows.app _ hi.2⟩
  rw[ofEvents_none] at XZ;simp at XZ;rw[XZ];exact⟨rfl,X0,λmm e=>by cases e⟩
 refine⟨λXW=>?_,λe=>?_⟩
 ·rcases hj with hj|⟨e,-⟩
  exact h.still j (.inl hj);exact P' e XW
 rcases hj with ⟨e0,-⟩|⟨-,-,e0⟩
 exact P' (e.symm.trans e0) hJ;cases e0
end
open Go.ConcN (sumTo upd sumTo_upd upd_ne upd_same)
open Go.ConcR (KK wgBlock WgAt stA smA rd wr mk DC0)
section
variable {F:World->Prop}{hF:∀{W W1},F W->Rv W W1->F W1}{lent0:Nat->Option Obj}{hFin:∀g,Fin g->g.status=.running}{zf:Nat->Option Obj}{k:WK}{gs:Array Goroutine}{S:Nat->Nat->Prop}{V:Nat->World}{sl:Option (Nat×Nat)}{Φ:Value->World->Prop}
set_option maxHeartbeats 4000000 in
theorem Sa(hJ:J≠0)(X':dC m .dn)(hSW:∀b,Sst b->b≠Wg)(hc:c≠Wg∧Zf c∧∃s r tm,zf c=some (.chan 0 #[] true s r tm))(hzs:∀b,Sst b->Zf b)(hS0:∀b:Nat,S0 b->Sst b∧zf b=w00.heap[b]?)(hSst:∀b:Nat,Sst b->S0 b∨w00.heap.size<=b)(hWg:w00.heap.size<=Wg)(hRm:∀b,Rm b->Zf b∧zf b=lent0 b∧¬YM Wg Sst b∧∃cs tt fr,lent0 b=some (.cells cs tt fr))(HB:yX P Φ w00 S0 Fin F w0 Rm lent0 c Wg)
  (h:bC (Zd P ty J Wg c (pL P ty Wg c F hF) (YM Wg Sst) Sst Rm Fin hFin Zf zf hZ w0 m mf .dn kf) gs w t S V rk q) (hi:gs[J]? = some g) (hl:rk J=.leaf) (hQ:DnQ P ty Wg F g (V J)) :
  ∃m' ops,runT P (crowd gs w sl) J=(.next m',ops)∧Ends P Φ m' (t++ops):=by
 obtain⟨⟨n,hdone⟩,hFV⟩:=hQ;have hI:ivP J Wg (YM Wg Sst) Rm m.deaf (qB J m .dn) (ZO J Wg m .dn) (Ex1 J Wg c w0.heap.size Sst) S w.heap.size t:=h.trace;obtain⟨x1,x2,x3,x4,x6,x7,x5⟩:=hI.2.2.2;have hwg:w.heap[Wg]? = some (wgBlock ty (stV m .dn) (smV m .dn)):=I1 h;have hv0:=h.view 0 (.inl rfl);have hvJ:=h.view J (.inr rfl);have hz1:∀b:Nat,Zf b->b≠Wg->w.heap[b]? = zf b:=λb hb XW=>by
  have:=(h.common b hb).2;change _=ZY ty Wg zf m .dn b at this;unfold ZY at this
  rwa [Xk XW] at this
 have hS0W:S 0 Wg:=hI.2.2.1 0 (.inl rfl);have hapart:∀b:Nat,b<w.heap.size->S 0 b∨S J b∨Rm b:=λb hb=>h.apart 0 J (.inl rfl) (.inr rfl) (Ne.symm hJ) b hb
 -- the crew told anew
 let S':Nat->Nat->Prop:=λj b=>if j=J then b<w.heap.size else S j b;have Zw:S' 0=S 0:=by funext b;exact Xk (Ne.symm hJ)
 have Zv:S' J=λb=>b<w.heap.size:=by funext b;exact Xl rfl
 have hvJ':View (S' J) Rm w (mask (S' J) Rm w):=kD (λb o hb ho=>by
  rw[Zv] at hb;exact P' (E'.1 ho).1 hb) (λb hb=>by rw[Zv] at hb;exact hb) λb h1 hb=>by
  rw[Zv] at h1;exact P' (by rw[hv0.size];exact hv0.low (.inr hb)) h1
 let V':Nat->World:=λj=>if j=J then mask (S' J) Rm w else V j;have hV'0:V' 0=V 0:=Xk (Ne.symm hJ);have hV'J:V' J=mask (S' J) Rm w:=Xl rfl;have h':bC (Zd P ty J Wg c (pL P ty Wg c F hF) (YM Wg Sst) Sst Rm Fin hFin (λb=>S 0 b∨Rm b) (λb=>w.heap[b]?) (.inl hS0W) w0 m mf .rel n) gs w t S' V' rk q:=by
  refine⟨λj y hj hy=>?_,λj hj=>?_,λa b ha hb XW x hx=>?_,λb hb=>?_,h.old,h.above,?_,λj hj=>?_,h.here,h.base⟩;by_cases e:j=J;subst e;rw[hi] at hy;obtain rfl:=Oi hy;rw[hl];exact⟨λe=>P' e hJ,λ_=>hdone⟩;have hj0:j=0:=hj.resolve_right e;subst hj0;rw[hV'0];exact er (λa b Y9=>⟨λe=>Q5 (λ_=>by decide) (Y9.1 e),λe=>P' rfl e⟩) (h.walk 0 y hj hy);by_cases e:j=J;subst e;rw[hV'J];exact hvJ';have hj0:j=0:=hj.resolve_right e;subst hj0;rw[hV'0,Zw];exact hv0;rcases ha with rfl|ha;rcases hb with rfl|hb;exact P' rfl XW;have hb:b=J:=hb;rw[hb,Zv];exact .inr (.inl hx);have ha:a=J:=ha;rw[ha,Zv];exact .inl hx;refine⟨λj hj=>?_,?_⟩;rcases hb with hb|hb;left;by_cases e:j=J;rw[e,Zv];exact x1 0 b (.inl rfl) hb;have hj0:j=0:=hj.resolve_right e;rw[hj0,Zw];exact hb;exact .inr hb;show _=ZY ty Wg (λb=>w.heap[b]?) m .rel b;unfold ZY;by_cases e:b=Wg;rw[Xl e,e];exact hwg;rw[Xk e];refine⟨⟨hI.1.clean,λj hj kk a hk b hb=>?_,hI.1.seen⟩,⟨hI.2.1.d0,hI.2.1.dJ,hI.2.1.norel,hI.2.1.wg,λkk a h1 b h2=>(hI.2.1.all kk a h1 b h2).imp id (.imp (λz=>⟨λe=>(by cases e),z.2⟩) id)⟩,λj hj=>?_,?_⟩;by_cases e:j=J;rcases hI.1.known J (.inr rfl) kk a hk b hb with y|⟨y,yw⟩|y;rw[e,Zv];exact .inl (x1 J b (.inr rfl) y);exact .inr (.inl ⟨y,yw⟩);rw[e];exact .inr (.inr y);have hj0:j=0:=hj.resolve_right e;rw[hj0,Zw];exact hI.1.known 0 (.inl rfl) kk a hk b hb;by_cases e:j=J;rw[e,Zv];exact x5;have hj0:j=0:=hj.resolve_right e;rw[hj0,Zw];exact hS0W;show Ex2 Wg (λb=>S 0 b∨Rm b) Sst S' w.heap.size;refine⟨λb hb=>by rw[Zw] at hb;exact .inl hb,λb hb=>by rw[Zw];exact(x2 b hb).1,x5⟩;rcases hj with ⟨e,e2⟩|⟨e,-,-⟩
  rw[e];exact h.still 0 (.inl ⟨rfl,e2⟩);rw[e];exact hl
 -- what lies behind the join
 have HE:∀{mf kf gs w' sl t S' V rk q g},bC (Zd P ty J Wg c (pL P ty Wg c F hF) (YM Wg Sst) Sst Rm Fin hFin (λb=>S 0 b∨Rm b) (λb=>w.heap[b]?) (.inl hS0W) w0 .fin mf .gone kf) gs w' t S' V rk q->gs[0]? = some g->Fin g->Ends P Φ (crowd gs w' sl) t:=by intro mf' kf' Yn w' Z2 t' S2 V2 rk2 q2 g2 hc2 hg2 hF2;refine KG (λb hb=>?_) hSst hWg (λb o hb hn ho=>?_) (λg hg w'' W' hz hb hv=>?_) hc2 hg2 hF2;obtain⟨a1,a2⟩:=hS0 b hb;have XW:=hSW b a1;exact⟨a1,by rw[<-a2];exact hz1 b (hzs b a1) XW,XW⟩;have hlent:Rm b->Obj.plain o:=λhr=>(by obtain⟨a1,a2,a3,cs,tt,fr,a4⟩:=hRm b hr;have XW:b≠Wg:=λe=>a3 (.inr e);have Zt:w.heap[b]? = some o:=ho;rw[hz1 b a1 XW,a2,a4] at Zt;obtain rfl:=Oi Zt;trivial);by_cases hr:Rm b;exact hlent hr;have hb:S 0 b:=hb.resolve_right hr;by_cases hsj:S J b;rcases x4 b hb hsj with y|rfl|rfl;exact P' (.inl y) hn;obtain⟨hcw,hcz,s,r,tm,hcc⟩:=hc;have Zt:w.heap[b]? = some o:=ho;rw[hz1 b hcz hcw,hcc] at Zt;obtain rfl:=Oi Zt;trivial;exact P' (.inr rfl) hn;exact hvJ.plain b o (by rw[<-hvJ.same b hsj hr];exact ho);refine HB g hg (V J) W' (S J) hFV (λb hb=>hvJ.pois b hb) (λb o hb hnr ho=>?_) (λb hr=>?_) (λb hb X0=>?_) (hv.pois Wg (.inr rfl)) ⟨hv.os.symm.trans hb.os,hv.tape.symm.trans hb.tape,hv.output.symm.trans hb.output⟩;have hwb:w.heap[b]? = some o:=(by rw[hvJ.same b hb hnr];exact ho);have X0:b<w.heap.size:=(E'.1 hwb).1;have hs0:S 0 b:=(hapart b X0).resolve_right λx=>x.elim hb hnr;have XW:b≠Wg:=λe=>hb (e▸hI.2.2.1 J (.inr rfl));have hnj:¬YM Wg Sst b:=λx=>x.elim (λy=>hb (x2 b y).2) XW;rw[<-hv.same b hnj (λx=>x),hz b (.inl hs0) XW];exact hwb;obtain⟨a1,a2,a3,-⟩:=hRm b hr;have XW:b≠Wg:=λe=>a3 (.inr e);rw[<-hv.same b a3 (λx=>x),hz b (.inr hr) XW,<-a2];exact hz1 b a1 XW;rcases x6 b hb X0 with y|y|y;exact .inr (.inr (hv.pois b (.inl y)));exact .inl y;exact .inr (.inl y)
 exact v9 (k:=.rel) hJ (.inr rfl) rfl X' (λk' kf' _ hw' ho=>by intro gs w sl t S V rk q hc;exact PM hJ (.inr rfl) HE _ _ _ _ m mf k' kf' rfl rfl rfl rfl hw' ho hc) h' hi hdone
theorem PN(hJ:J≠0)(hSW:∀b,Sst b->b≠Wg)(hc:c≠Wg∧Zf c∧∃s r tm,zf c=some (.chan 0 #[] true s r tm))(hzs:∀b,Sst b->Zf b)(hS0:∀b:Nat,S0 b->Sst b∧zf b=w00.heap[b]?)(hSst:∀b:Nat,Sst b->S0 b∨w00.heap.size<=b)(hWg:w00.heap.size<=Wg)(hRm:∀b,Rm b->Zf b∧zf b=lent0 b∧¬YM Wg Sst b∧∃cs tt fr,lent0 b=some (.cells cs tt fr))(HB:yX P Φ w00 S0 Fin F w0 Rm lent0 c Wg) :
  ∀a b d:Nat,∀m mf k kf,m.dS=a->m.fuel mf=b->k.dS=d->k.walks=true->dC m k->∀{gs w sl t S V rk q},bC (Zd P ty J Wg c (pL P ty Wg c F hF) (YM Wg Sst) Sst Rm Fin hFin Zf zf hZ w0 m mf k kf) gs w t S V rk q->Ends P Φ (crowd gs w sl) t:=by
 intro a
 induction a using Nat.strongRecOn with|ind a iha=>?_
 intro b
 induction b using Nat.strongRecOn with|ind b ihb=>?_
 intro d
 induction d using Nat.strongRecOn with|ind d ihd=>?_
 intro m mf k kf ea eb ed hkw X' gs w sl t S V rk q h;have IHm:∀m' mf',(m'.dS<a∨(m'.dS=a∧m'.fuel mf'<b))->dC m' k->∀{gs w sl t S V rk q},bC (Zd P ty J Wg c (pL P ty Wg c F hF) (YM Wg Sst) Sst Rm Fin hFin Zf zf hZ w0 m' mf' k kf) gs w t S V rk q->Ends P Φ (crowd gs w sl) t:=by
  intro m' mf' hl ho gs w sl t S V rk q hc;rcases hl with hl|⟨e,hl⟩
  exact iha _ hl _ _ m' mf' k kf rfl rfl rfl hkw ho hc;exact ihb _ hl _ m' mf' k kf e rfl rfl hkw ho hc
 have hk:k≠.gone:=λe=>by rw[e] at hkw;cases hkw
 have Y5:m≠.fin:=λe=>hk (je X' (.inr (.inr (.inr (.inl e)))));refine lQ (λhc=>Bh hJ hc) ?_ h;intro gs w sl t S V rk q i g hcr Yx hi XV hl hQ;by_cases Z0:i=0;subst Z0;have hm:=hQ.1 rfl;by_cases YZ:m=.own;subst YZ;obtain⟨n1,hm1⟩:=hm;have hok':dC .kd k:=(by cases k<;>simp_all [dC]);exact m4 hJ (.inr rfl) (m1:=.kd) (n1:=n1) (.inr ⟨rfl,rfl⟩) ⟨by decide,by decide⟩ hok' (λm' mf' hr ho=>IHm m' mf' (.inl (by rw[<-ea];rcases hr with x|⟨x,_⟩<;>simp only[MK.dS] at x ⊢<;>omega)) ho) hcr hi XV hm1 hl;exact m4 hJ (.inr rfl) (.inl ⟨rfl,rfl⟩) ⟨YZ,Y5⟩ X' (λm' mf' hr ho=>IHm m' mf' (by rw[<-ea,<-eb];exact hr) ho) hcr hi XV hm hl;have hiJ:i=jOf J k:=Yx.resolve_left Z0;have hij:i=J:=hiJ.trans (uh hk);subst hij;have hq:=hQ.2 Z0;cases k with
 | rc=>
  obtain⟨Yn,V',rk',ops,b1,b2⟩:=UI (sl:=sl) hJ ⟨hc.2.1,hc.1,hc.2.2⟩ hcr hi hq;exact⟨_,_,b1,.inl (ihd 8 (by rw[<-ed];decide) m mf .dn kf ea eb rfl rfl X' b2)⟩
 | dn=>
  obtain⟨m',ops,b1,b2⟩:=Sa (sl:=sl) hJ X' hSW hc hzs hS0 hSst hWg hRm HB hcr hi hl hq;exact⟨m',ops,b1,.inl b2⟩
 | _=>cases hkw
end
open Go.ConcN (sumTo upd sumTo_upd upd_ne upd_same)
open Go.ConcR (KK wgBlock WgAt stA smA rd wr mk DC0)
def Xb(P:Program)(c:Nat)(v z:Value)(fr:Frame)(cs:List Frame):Prop:=∀main w,stepG P main (G fr cs) w=.comm (G fr cs) #[scase c v z] true .send w #[]
def ClQ(P:Program)(ty:TypeId)(Wg c:Nat)(Fin:Goroutine->Prop)(g:Goroutine)(W:World):Prop:=
 g.status=.running∧mayWake P g=true∧∃g',g'.status=.running∧(∀w s r tm,w.heap[c]? = some (.chan 0 #[] false s r tm)->stepG P true g w=.go g' {w with heap:=w.heap.setIfInBounds c (.chan 0 #[] true s r tm)} #[⟨.obj c,false,true⟩,⟨.obj c,true,true⟩])∧Gs P (λg _=>pJ P true ty Wg Fin g) g' W
def MP(P:Program)(c:Nat)(Cl:Goroutine->World->Prop):List Value->Bool->Goroutine->World->Prop
 | [],p,g,W=>p=false∧Cl g W
 | v::vs,p,g,W=>∃fr cs z,g=(if p=true then parked (G fr cs) #[scase c v z] .send else G fr cs)∧Xb P c v z fr cs∧Gs P (MP P c Cl vs false) (Go.Conc.served (G fr cs) undef) W
def RP(P:Program)(c:Nat)(D:Goroutine->World->Prop):List Value->Bool->Goroutine->World->Prop
 | [],p,g,W=>∃fr cs z,g=(if p=true then parked (G fr cs) #[rcase c z] (.recv true) else G fr cs)∧Ii P c z fr cs∧Gs P D (Go.Conc.served (G fr cs) (.tuple #[z,.bool false])) W
 | v::vs,p,g,W=>∃fr cs z,g=(if p=true then parked (G fr cs) #[rcase c z] (.recv true) else G fr cs)∧Ii P c z fr cs∧Gs P (RP P c D vs false) (Go.Conc.served (G fr cs) (.tuple #[v,.bool true])) W
section
variable {Cl D:Goroutine->World->Prop}{vs:List Value}{p:Bool}{a a':Goroutine}{W W1:World}{s r:Nat}{tm:Bool}
theorem kC(hC:∀{g W W1},Cl g W->Rv W W1->Cl g W1):∀{vs:List Value} {p:Bool} {g:Goroutine} {W W1:World},MP P c Cl vs p g W->Rv W W1->MP P c Cl vs p g W1
 | [],_,_,_,_,h,k=>⟨h.1,hC h.2 k⟩
 | _::_,_,_,_,_,⟨fr,cs,z,h1,h2,h3⟩,k=>⟨fr,cs,z,h1,h2,h3.later (λx y=>kC hC x y) k⟩
theorem ig(hD:∀{g W W1},D g W->Rv W W1->D g W1):∀{vs:List Value} {p:Bool} {g:Goroutine} {W W1:World},RP P c D vs p g W->Rv W W1->RP P c D vs p g W1
 | [],_,_,_,_,⟨fr,cs,z,h1,h2,h3⟩,k=>⟨fr,cs,z,h1,h2,h3.later hD k⟩
 | _::_,_,_,_,_,⟨fr,cs,z,h1,h2,h3⟩,k=>⟨fr,cs,z,h1,h2,h3.later (λx y=>ig hD x y) k⟩
theorem tX(hC:∀g W,Cl g W->g.status=.running)(h:MP P c Cl vs p g W):g.status=if p=true then .blocked else .running:=by
 cases vs with
 | nil=>obtain⟨rfl,h⟩:=h;exact hC g W h
 | cons v vs=>obtain⟨fr,cs,z,rfl,-⟩:=h;cases p<;>rfl
theorem sd(h:RP P c D vs p g W):∃fr cs z,g=(if p=true then parked (G fr cs) #[rcase c z] (.recv true) else G fr cs)∧Ii P c z fr cs:=by
 cases vs with
 | nil=>obtain⟨fr,cs,z,h1,h2,-⟩:=h;exact⟨fr,cs,z,h1,h2⟩
 | cons v vs=>obtain⟨fr,cs,z,h1,h2,-⟩:=h;exact⟨fr,cs,z,h1,h2⟩
theorem tu(h:RP P c D vs p g W):g.status=if p=true then .blocked else .running:=by obtain⟨fr,cs,z,rfl,-⟩:=sd h;cases p<;>rfl
theorem OL(hC:∀g W,Cl g W->g.status=.running)(h:MP P c Cl vs p g W)(hc:w'.heap[c]? = some (.chan 0 #[] false s r tm)):woken P a a' w' g=g:=by
 cases p with
 | false=>exact woken_run (tX hC h)
 | true=>
  cases vs with
  | nil=>cases h.1
  | cons v vs=>obtain⟨fr,cs,z,rfl,-⟩:=h;exact woken_send_open _ _ hc
theorem NZ(h:RP P c D vs p g W)(hc:w'.heap[c]? = some (.chan 0 #[] false s r tm)):woken P a a' w' g=g:=by
 cases p with
 | false=>exact woken_run (tu h)
 | true=>obtain⟨fr,cs,z,rfl,-⟩:=sd h;exact woken_recv_open _ _ hc
theorem G7(hC:∀g W,Cl g W->g.status=.running)(h:MP P c Cl vs p g W)(d:Nat):offersAt g d false=[]:=by
 cases p with
 | false=>exact offersAt_of_not_blocked (by rw[tX hC h];decide) d _
 | true=>
  cases vs with
  | nil=>cases h.1
  | cons v vs=>obtain⟨fr,cs,z,rfl,-⟩:=h;exact offersAt_parked_send' _ _ _ _ _ d
theorem GR(h:RP P c D vs p g W)(d:Nat):offersAt g d true=[]:=by
 cases p with
 | false=>exact offersAt_of_not_blocked (by rw[tu h];decide) d _
 | true=>obtain⟨fr,cs,z,rfl,-⟩:=sd h;exact offersAt_parked_recv' _ _ _ _ d
end
def zOp(ty:TypeId)(Wg c:Nat)(zs:Nat->Option Obj)(s r:Nat)(tm:Bool)(b:Nat):Option Obj:=if b=Wg then some (wgBlock ty KK 0) else if b=c then some (.chan 0 #[] false s r tm) else zs b
def ZbO(Wg c:Nat)(Sst Rm:Nat->Prop)(b:Nat):Prop:=b=c∨b=Wg∨Sst b∨Rm b
def KJc(J c:Nat)(t:Trace)(k:Nat):Prop:=Knows t J k∧k<t.size∧∀x:Touch,touchAt t k=some x->∀b,kO x.loc=some b->b≠c
theorem E1{k:Nat}(u:Trace)(h:KJc J c t k):KJc J c (t++u) k:=⟨h.1.app u,by rw[Array.size_append];have:=h.2.1;omega,λx hx b hb=>by
 obtain⟨y,hy,hya⟩:=touch_of hx;rcases getElem?_append_cases hy with ⟨X0,hy'⟩|⟨hge,_⟩
 exact h.2.2 x (by rw[touchAt_of hy'];exact hya) b hb;have:=h.2.1;omega⟩
def cw0(P:Program)(ty:TypeId)(J Wg c:Nat)(Cl D:Goroutine->World->Prop)(hC:∀{g W W1},Cl g W->Rv W W1->Cl g W1)(hCr:∀g W,Cl g W->g.status=.running)(hD:∀{g W W1},D g W->Rv W W1->D g W1)(hcw:c≠Wg)
  (Sst Rm:Nat->Prop) (zs:Nat->Option Obj) (w0:World) (vs:List Value) (pm pw:Bool) (s r:Nat) (tm:Bool):Cw P:=
 cwP P J Wg (YM Wg Sst) Rm (λi=>(i=0∧pm=true)∨(i=J∧i≠0∧pw=true)) (λi g W=>(i=0->MP P c Cl vs pm g W)∧(i≠0->RP P c D vs pw g W)) (ZbO Wg c Sst Rm) (zOp ty Wg c zs s r tm) 0 0 (KJc J c) (Ex1 J Wg c w0.heap.size Sst) w0
  (λh k=>⟨λe=>kC (Cl:=Cl) (λx y=>hC x y) (h.1 e) k,λe=>ig (D:=D) (λx y=>hD x y) (h.2 e) k⟩)
  (λ{i g p p' W w'} h hz=>by have hc:=hz c (.inl rfl);unfold zOp at hc;rw[Xk hcw,Xl rfl] at hc;by_cases e:i=0;have h1:=h.1 e;refine⟨λ_=>?_,λx=>P' e x⟩;rw[OL hCr h1 hc];exact h1;have h1:=h.2 e;refine⟨λx=>P' x e,λ_=>?_⟩;rw[NZ h1 hc];exact h1)
  (λt u k h=>E1 u h)
  (λ_ _ S n hE t p y hy hg hs=>⟨by have:=knows_own hy;rwa [hg] at this,lt_size_of_getElem? hy,λx hx b hb e=>hs x b (by rw[<-touchAt_of hy];exact hx) hb (e▸hE.2.2.1.2)⟩)
  (λ{S n n' i} hi _ hn h=>Fw (J:=J) (Wg:=Wg) (c:=c) (n0:=w0.heap.size) (Zf:=λ_=>False) (Sst:=Sst) (k:=.rc) (m:=.own) (S:=S) (n:=n) (n':=n') (i:=i) hi (by rintro(⟨-,x⟩|⟨-,-,x⟩);exact x rfl;cases x) hn h)
end Go.Proofs.YtmdpdknpapjchaaGreatDoor
