/- Company, 29: the worker's steps in the library. -/
import Derived.Test.YtgigkennhdolpaaGreatDoorM22
import Derived.Conc.CrowdComm
namespace Go.Proofs.YtgigkennhdolpaaGreatDoor
open Go.Conc Go.ConcN
open Go.ConcN (sumTo upd sumTo_upd upd_ne upd_same)
open Go.ConcR (KK wgBlock WgAt stA smA rd wr mk DC0)
section
variable {P:Program}{ty:TypeId}{J Wg c:Nat}{X:Wq P ty Wg}{Sst Rm:Nat->Prop}{Fin:Goroutine->Prop}{hFin:∀g,Fin g->g.status=.running}{Zf:Nat->Prop}{zf:Nat->Option Obj}{hZ:Zf Wg}{w0:World}{m m':MK}{mf mf':Nat}{k k':WK}{kf kf':Nat}
 {gs:Array Goroutine} {w w':World} {t:Trace} {S:Nat->Nat->Prop} {V:Nat->World} {rk:Nat->Rk} {q:Nat->Nat} {g g':Goroutine} {es:Array Event} {sl:Option (Nat×Nat)} {Φ:Value->World->Prop} {w00:World} {S0:Nat->Prop}
theorem LN(hk:k=.rel∨k=.k1∨k=.dec):Zz m k=(if m.reg then KK+1 else KK)∧Zm m k=0:=by rcases hk with rfl|rfl|rfl<;>exact⟨rfl,rfl⟩
theorem ym(Vg:dF m k)(hk:k=.rel∨k=.k1∨k=.dec):dF m .k1∧dF m .dec:=by rcases hk with rfl|rfl|rfl<;>exact⟨Vg,Vg⟩
theorem PN(Vg:dF m .dec)(hr:m.reg=true):m=.wr∨m=.sem:=by rcases Vg with rfl|rfl|rfl|rfl|rfl|rfl<;>simp[MK.reg] at hr ⊢
theorem Fw(Vg:dF m k)(hk:k≠.gone):m.joined=false:=by cases m<;>first|rfl|(exfalso;cases k<;>simp[dF] at Vg hk)
theorem Ht(h:bC (Wk P ty J Wg c X (VQ Wg Sst) Sst Rm Fin hFin Zf zf hZ w0 m mf k kf) gs w t S V rk q):w.heap[Wg]? = some (wgBlock ty (Zz m k) (Zm m k)):=by
 have:=(h.common Wg hZ).2;change _=Xo ty Wg zf m k Wg at this;unfold Xo at this
 rwa [UD rfl] at this
set_option maxHeartbeats 4000000 in
theorem uE(hJ:J≠0)(Wi:VQ Wg Sst Wg)(Yv:k.lib=true)(Vg:dF m k)
  (IH:∀k' kf',(k'.dU<k.dU∨(k'.dU=k.dU∧kf'<kf))->k'.walks=false->dF m k'->∀{gs w sl t S V rk q},bC (Wk P ty J Wg c X (VQ Wg Sst) Sst Rm Fin hFin Zf zf hZ w0 m mf k' kf') gs w t S V rk q->Ends P Φ (crowd gs w sl) t)
  (h:bC (Wk P ty J Wg c X (VQ Wg Sst) Sst Rm Fin hFin Zf zf hZ w0 m mf k kf) gs w t S V rk q) (hi:gs[J]? = some g) (hm:QW P ty Wg X.R X.D k kf g (V J)) :
  ∃m' ops,runT P (crowd gs w sl) J=(.next m',ops)∧Ends P Φ m' (t++ops):=by
 have hz:=Ht h;have hk:k≠.gone:=λe=>by rw[e] at Yv;cases Yv
 have ej:=sQ (J:=J) hk;have hI:ivP J Wg (VQ Wg Sst) Rm m.deaf k.deaf (Xc J Wg m k) (YL J Wg c w0.heap.size Zf Sst k) S w.heap.size t:=by
  have:=h.trace;change ivP (XA J k) Wg (VQ Wg Sst) Rm m.deaf (pR J m k) (Xc J Wg m k) (YL J Wg c w0.heap.size Zf Sst k) S w.heap.size t at this;unfold pR at this
  rwa [ej,UC hJ] at this
 have U8:=hI.2.2.2.lt;have VJ:=ef hz;have hjn:=Fw Vg hk;have hex:∀k2:WK,k2.walks=false->YL J Wg c w0.heap.size Zf Sst k2=Ex2 Wg Zf Sst:=λk2 h2=>by funext a b;unfold YL;rw[UC (by rw[h2];decide)]
 have hkw:k.walks=false:=by cases k<;>first|rfl|cases Yv
 rw[hex k hkw] at hI;have go:∀{k' kf' g' w' es},k'.lib=true->stepG P false g w=.go g' w' es->Aside Wg w w'->QW P ty Wg X.R X.D k' kf' g' (V J)->w'.heap[Wg]? = some (wgBlock ty (Zz m k') (Zm m k'))->
   ivP J Wg (VQ Wg Sst) Rm m.deaf k'.deaf (Xc J Wg m k') (Ex2 Wg Zf Sst) S w.heap.size (t++MemOp.ofEvents J g.frame.fn g.frame.place es)->(k'.dU<k.dU∨(k'.dU=k.dU∧kf'<kf))->dF m k'->
   ∃XO ops,runT P (crowd gs w sl) J=(.next XO,ops)∧Ends P Φ XO (t++ops):=by
  intro k' kf' g' w' es a0 a1 a2 a3 a4 a5 a6 a7;have hw':k'.walks=false:=(by cases k'<;>first|rfl|cases a0);obtain⟨Vq,V',rk',b1,b2⟩:=LF (sl:=sl) h hJ Yv a0 hi a1 a2 a3 a4 (by rw[hex k' hw'];exact a5);exact⟨_,_,b1,IH k' kf' a6 hw' a7 b2⟩
 have idle:∀{g' n'},stepG P false g w=.go g' w #[]->QW P ty Wg X.R X.D k n' g' (V J)->n'<kf->∃XO ops,runT P (crowd gs w sl) J=(.next XO,ops)∧Ends P Φ XO (t++ops):=
  λa1 a2 a3=>go Yv a1 (Aside.refl _ _) a2 hz (by rw[ofEvents_none,Array.append_empty];exact hI) (.inr ⟨rfl,a3⟩) Vg
 have Vs:∀(a:Addr) (x:Bool) (dw:Nat),dw≠0->a.block=Wg->((∀b:Addr,MemAct.ofEvent ⟨.cell a,x,true⟩≠.mark (.release b))∧(MemAct.ofEvent ⟨.cell a,x,true⟩).low w.heap.size∧((MemAct.ofEvent ⟨.cell a,x,true⟩).touch? = none∨(∃a' wr,MemAct.ofEvent ⟨.cell a,x,true⟩=.access ⟨.cell a',wr,true⟩∧a'.block=Wg)∧dw≠0)):=λa x dw hd e=>
  ⟨by simp[MemAct.ofEvent],by show a.block<_;rw[e];exact U8,.inr ⟨⟨a,x,rfl,e⟩,hd⟩⟩
 have kj:∀{t':Trace} {op:MemOp} {ka kb:WK},ka.walks=false->kb.walks=false->ka≠.rel->kb≠.rel->∀i,Xc J Wg m ka t' i->Xc J Wg m kb (t'++#[op]) i:=λ{t' op ka kb} ha hb h1 h2 i hi=>by
  obtain⟨p,a,b⟩:∃p,qG Wg t' p∧Before t' i p:=(by have:=hi.2;cases ka<;>first|exact this|exact Uw rfl h1|cases ha);have:∃p,qG Wg (t'++#[op]) p∧Before (t'++#[op]) i p:=⟨p,a.app,b.app _⟩
  refine⟨λ_=>hjn,?_⟩;cases kb<;>first|exact this|exact Uw rfl h2|cases hb
 cases k with
 | gone=>exact Uw rfl hk
 | rc=>cases Yv
 | dn=>cases Yv
 | rel=>
  rcases bV hm VJ with ⟨-,g',U7,n',hN⟩|⟨n',g',rfl,-,U7,hN⟩
  ·refine go (k':=.k1) (kf':=n') (by decide) (U7 w) (Aside.refl _ _) hN (by rw[hz];rfl) ?_ (.inl (by decide)) (ym Vg (.inl rfl)).1;rw[ofEvents_one];refine ivJ (op:={g:=J,fn:=g.frame.fn,pos:=g.frame.place,act:=.ofEvent (mk (.releaseMerge (stA Wg)))}) hI hJ Wi rfl ⟨by simp[mk,MemAct.ofEvent],ew (Wg:=Wg) (.inr (.inr ⟨U8,by simp⟩)),.inl rfl⟩ λi hi=>⟨λ_=>hjn,t.size,?_,?_⟩
   exact⟨{g:=J,fn:=g.frame.fn,pos:=g.frame.place,act:=.ofEvent (mk (.releaseMerge (stA Wg)))},by rw[Array.getElem?_append_right (I' _)];simp,rfl,by rw[deaf_old (I' _)];exact hI.2.1.dJ⟩;have Xy:Knows t J i:=hi.2;exact .inr (Xy.hb_new (I' _) (y:={g:=J,fn:=g.frame.fn,pos:=g.frame.place,act:=.ofEvent (mk (.releaseMerge (stA Wg)))}) (by rw[Array.getElem?_append_right (I' _)];simp) rfl)
  exact idle U7 hN (by omega)
 | k1=>
  rcases bV hm VJ with ⟨-,g',U7,n',hN⟩|⟨n',g',rfl,-,U7,hN⟩
  ·refine go (k':=.dec) (kf':=n') (by decide) (U7 w) (Aside.refl _ _) hN (by rw[hz];rfl) ?_ (.inl (by decide)) (ym Vg (.inr (.inl rfl))).2;rw[ofEvents_one];have:=ivJ (op:={g:=J,fn:=g.frame.fn,pos:=g.frame.place,act:=.ofEvent (mk .disable)}) (KJ':=Xc J Wg m .dec) hI hJ Wi rfl ⟨by simp[mk,MemAct.ofEvent],ew (Wg:=Wg) (.inl rfl),.inl rfl⟩ (kj rfl rfl (by decide) (by decide))
   rwa [show deafStep J WK.k1.deaf ({g:=J,fn:=g.frame.fn,pos:=g.frame.place,act:=.ofEvent (mk .disable)} : MemOp)=WK.dec.deaf by simp[deafStep,mk,MemAct.ofEvent,WK.deaf]] at this
  exact idle U7 hN (by omega)
 | dec=>
  rcases bV hm VJ with ⟨-,⟨g1,hst1,n1,hQ⟩,⟨g2,hst2,n2,hN⟩⟩|⟨n',g',rfl,-,U7,hN⟩
  have hv:=LN (m:=m) (k:=.dec) (.inr (.inr rfl));have two:∀k2:WK,k2.walks=false->k2≠.rel->ivP J Wg (VQ Wg Sst) Rm m.deaf 1 (Xc J Wg m k2) (Ex2 Wg Zf Sst) S w.heap.size (t++MemOp.ofEvents J g.frame.fn g.frame.place #[rd (stA Wg),wr (stA Wg)]):=λk2 h3 h2=>(by rw[kO];have b1:=ivJ (op:={g:=J,fn:=g.frame.fn,pos:=g.frame.place,act:=.ofEvent (rd (stA Wg))}) (KJ':=Xc J Wg m .dec) hI hJ Wi rfl (Vs (stA Wg) false _ (by decide) rfl) (kj rfl rfl (by decide) (by decide));exact ivJ (op:={g:=J,fn:=g.frame.fn,pos:=g.frame.place,act:=.ofEvent (wr (stA Wg))}) (KJ':=Xc J Wg m k2) b1 hJ Wi rfl (Vs (stA Wg) true _ (by simp[deafStep,rd,MemAct.ofEvent,WK.deaf]) rfl) (kj rfl h3 (by decide) h2));by_cases hr:m.reg=true;rw[hv.1,hv.2,UD hr] at hz;have WO:(w.setCell (stA Wg) (.int .u64 1)).heap[Wg]? = some (wgBlock ty 1 0):=Go.ConcR.WgAt.setSt hz _;exact go (k':=.l1) (kf':=n2) (by decide) (hst2 w hz) (aside_setCell w (stA Wg) _) hN (by rw[WO];rfl) (two .l1 rfl (by decide)) (.inl (by decide)) (PN Vg hr);rw[hv.1,hv.2,UC hr] at hz;have WO:(w.setCell (stA Wg) (.int .u64 0)).heap[Wg]? = some (wgBlock ty 0 0):=Go.ConcR.WgAt.setSt hz _;have hms:m≠.sem:=λe=>hr (by rw[e];rfl);obtain⟨Vq,V',q',b1,b2⟩:=uD (sl:=sl) (k':=.dec) h hJ Yv hi (hst1 w hz) (aside_setCell w (stA Wg) _) hQ (by rw[(two .dec rfl (by decide)).2.1.dJ]) (by rw[WO];simp[Zz,Zm,hr]) (λe=>Uw e hms) (by rw[hex .gone rfl];exact two .gone rfl (by decide));exact⟨_,_,b1,IH .gone 0 (.inl (by decide)) rfl trivial b2⟩;exact idle U7 hN (by omega)
 | l1=>
  rcases bV hm VJ with ⟨-,g',U7,n',hN⟩|⟨n',g',rfl,-,U7,hN⟩
  refine go (k':=.st) (kf':=n') (by decide) (U7 w hz) (Aside.refl _ _) hN (by rw[hz];rfl) ?_ (.inl (by decide)) Vg;rw[ofEvents_one];exact ivJ (op:={g:=J,fn:=g.frame.fn,pos:=g.frame.place,act:=.ofEvent (rd (stA Wg))}) (KJ':=Xc J Wg m .st) hI hJ Wi rfl (Vs (stA Wg) false _ (by decide) rfl) (kj rfl rfl (by decide) (by decide));exact idle U7 hN (by omega)
 | st=>
  rcases bV hm VJ with ⟨-,g',U7,n',hN⟩|⟨n',g',rfl,-,U7,hN⟩
  have WO:(w.setCell (stA Wg) (.int .u64 0)).heap[Wg]? = some (wgBlock ty 0 0):=Go.ConcR.WgAt.setSt hz _;refine go (k':=.rs) (kf':=n') (by decide) (U7 w hz) (aside_setCell w (stA Wg) _) hN (by rw[WO];rfl) ?_ (.inl (by decide)) Vg;rw[ofEvents_one];exact ivJ (op:={g:=J,fn:=g.frame.fn,pos:=g.frame.place,act:=.ofEvent (wr (stA Wg))}) (KJ':=Xc J Wg m .rs) hI hJ Wi rfl (Vs (stA Wg) true _ (by decide) rfl) (kj rfl rfl (by decide) (by decide));exact idle U7 hN (by omega)
 | rs=>
  rcases bV hm VJ with ⟨-,hmw,g',U7,n',hQ⟩|⟨n',g',rfl,-,U7,hN⟩
  ·have WO:(w.setCell (smA Wg) (.int .u32 1)).heap[Wg]? = some (wgBlock ty 0 1):=Go.ConcR.WgAt.setSm hz _;have four:∀k2:WK,k2.walks=false->k2≠.rel->ivP J Wg (VQ Wg Sst) Rm m.deaf 1 (Xc J Wg m k2) (Ex2 Wg Zf Sst) S w.heap.size (t++MemOp.ofEvents J g.frame.fn g.frame.place (semEvents (smA Wg))):=λk2 h3 h2=>by
    unfold semEvents;rw[m5];have b1:=ivJ (op:={g:=J,fn:=g.frame.fn,pos:=g.frame.place,act:=.ofEvent (mk .disable)}) (KJ':=Xc J Wg m .rs) hI hJ Wi rfl ⟨by simp[mk,MemAct.ofEvent],ew (Wg:=Wg) (.inl rfl),.inl rfl⟩ (kj rfl rfl (by decide) (by decide));rw[show deafStep J WK.rs.deaf ({g:=J,fn:=g.frame.fn,pos:=g.frame.place,act:=.ofEvent (mk .disable)} : MemOp)=2 by simp[deafStep,mk,MemAct.ofEvent,WK.deaf]] at b1;have b2:=ivJ (op:={g:=J,fn:=g.frame.fn,pos:=g.frame.place,act:=.ofEvent ⟨.cell (smA Wg),false,true⟩}) (KJ':=Xc J Wg m .rs) b1 hJ Wi rfl (Vs (smA Wg) false _ (by decide) rfl) (kj rfl rfl (by decide) (by decide));have b3:=ivJ (op:={g:=J,fn:=g.frame.fn,pos:=g.frame.place,act:=.ofEvent ⟨.cell (smA Wg),true,true⟩}) (KJ':=Xc J Wg m .rs) b2 hJ Wi rfl (Vs (smA Wg) true _ (by simp[deafStep,MemAct.ofEvent]) rfl) (kj rfl rfl (by decide) (by decide));have b4:=ivJ (op:={g:=J,fn:=g.frame.fn,pos:=g.frame.place,act:=.ofEvent (mk .enable)}) (KJ':=Xc J Wg m k2) b3 hJ Wi rfl ⟨by simp[mk,MemAct.ofEvent],ew (Wg:=Wg) (.inr (.inl rfl)),.inl rfl⟩ (kj rfl h3 (by decide) h2)
    rwa [show deafStep J (deafStep J (deafStep J 2 ({g:=J,fn:=g.frame.fn,pos:=g.frame.place,act:=.ofEvent ⟨.cell (smA Wg),false,true⟩} : MemOp)) ({g:=J,fn:=g.frame.fn,pos:=g.frame.place,act:=.ofEvent ⟨.cell (smA Wg),true,true⟩} : MemOp)) ({g:=J,fn:=g.frame.fn,pos:=g.frame.place,act:=.ofEvent (mk .enable)} : MemOp)=1 by simp[deafStep,mk,MemAct.ofEvent]] at b4
   have hreg:m.reg=true:=(by rcases Vg with rfl|rfl<;>rfl);obtain⟨Vq,V',q',b1,b2⟩:=uD (sl:=sl) (k':=.dec) h hJ Yv hi (U7 w hz) (aside_setCell w (smA Wg) _) hQ (by rw[(four .dec rfl (by decide)).2.1.dJ]) (by rw[WO];simp[Zz,Zm,hreg]) (λ_=>hmw) (by rw[hex .gone rfl];exact four .gone rfl (by decide));exact⟨_,_,b1,IH .gone 0 (.inl (by decide)) rfl trivial b2⟩
  exact idle U7 hN (by omega)
theorem Nz(hJ:J≠0)(Wi:VQ Wg Sst Wg)
  (HE:∀{mf kf gs w sl t S V rk q g},bC (Wk P ty J Wg c X (VQ Wg Sst) Sst Rm Fin hFin Zf zf hZ w0 .fin mf .gone kf) gs w t S V rk q->gs[0]? = some g->Fin g->Ends P Φ (crowd gs w sl) t) :
  ∀a b c' d:Nat,∀m mf k kf,m.dU=a->m.fuel mf=b->k.dU=c'->kf=d->k.walks=false->dF m k->∀{gs w sl t S V rk q},bC (Wk P ty J Wg c X (VQ Wg Sst) Sst Rm Fin hFin Zf zf hZ w0 m mf k kf) gs w t S V rk q->Ends P Φ (crowd gs w sl) t:=by
 intro a
 induction a using Nat.strongRecOn with|ind a iha=>?_
 intro b
 induction b using Nat.strongRecOn with|ind b ihb=>?_
 intro c'
 induction c' using Nat.strongRecOn with|ind c' ihc=>?_
 intro d
 induction d using Nat.strongRecOn with|ind d ihd=>?_
 intro m mf k kf ea eb ec ed hkw Vg gs w sl t S V rk q h;have IHm:∀m' mf',(m'.dU<a∨(m'.dU=a∧m'.fuel mf'<b))->dF m' k->∀{gs w sl t S V rk q},bC (Wk P ty J Wg c X (VQ Wg Sst) Sst Rm Fin hFin Zf zf hZ w0 m' mf' k kf) gs w t S V rk q->Ends P Φ (crowd gs w sl) t:=by
  intro m' mf' hl ho gs w sl t S V rk q hc;rcases hl with hl|⟨e,hl⟩
  exact iha _ hl _ _ _ m' mf' k kf rfl rfl rfl rfl hkw ho hc;exact ihb _ hl _ _ m' mf' k kf e rfl rfl rfl hkw ho hc
 by_cases V8:m=.fin
 ·subst V8;obtain rfl:=iU Vg (.inr (.inr (.inr (.inl rfl))));have hy:gs[0]? = some (gs[0]'(h.here 0 (.inl rfl))):=Uq _;by_cases hF:Fin (gs[0]'(h.here 0 (.inl rfl)));exact HE h hy hF;have hl0:rk 0=.leaf:=h.still 0 (.inl ⟨rfl,by decide⟩);refine IHm .fini mf (.inr ⟨ea,by rw[<-eb];simp[MK.fuel]⟩) trivial (h.PK (C':=Wk P ty J Wg c X (VQ Wg Sst) Sst Rm Fin hFin Zf zf hZ w0 .fini mf .gone kf) (rk':=rk) rfl (λ_=>Iff.rfl) rfl (λj y hj hy'=>?_) (λb hb=>h.common b hb) h.trace λj hj=>?_);have Za:j=0:=(by rcases hj with x|x<;>exact x);subst Za;rw[hy] at hy';obtain rfl:=Oi hy';have hq:=h.walk 0 _ (.inl rfl) hy;rw[hl0] at hq ⊢;exact⟨λ_=>⟨hq.1 rfl,hF⟩,λe=>Uw rfl e⟩;rcases hj with ⟨e,-⟩|⟨-,-,e⟩
  rw[e];exact hl0;cases e
 refine lf (C:=Wk P ty J Wg c X (VQ Wg Sst) Sst Rm Fin hFin Zf zf hZ w0 m mf k kf) (λhc=>zK hJ hc) ?_ h;intro gs w sl t S V rk q i g hc VA hi U6 hl hQ;by_cases Xp:i=0;subst Xp;have hm:=hQ.1 rfl;by_cases Wh:m=.own;subst Wh;obtain⟨n1,hm1⟩:=hm;have hok':dF .kd k:=(by cases k<;>simp_all [dF]);exact mz hJ Wi (m1:=.kd) (n1:=n1) (.inr ⟨rfl,rfl⟩) ⟨by decide,by decide⟩ hok' (λm' mf' hr ho=>IHm m' mf' (.inl (by rw[<-ea];rcases hr with x|⟨x,_⟩<;>simp only[MK.dU] at x ⊢<;>omega)) ho) hc hi U6 hm1 hl;exact mz hJ Wi (.inl ⟨rfl,rfl⟩) ⟨Wh,V8⟩ Vg (λm' mf' hr ho=>IHm m' mf' (by rw[<-ea,<-eb];exact hr) ho) hc hi U6 hm hl;have hiJ:i=XA J k:=VA.resolve_left Xp;obtain⟨e,hk⟩:=pI (J:=J) (k:=k) (by rw[<-hiJ];exact Xp);have XS:i=J:=hiJ.trans e;subst XS;obtain⟨m',ops,b1,b2⟩:=uE (Φ:=Φ) (sl:=sl) hJ Wi (by cases k<;>first|rfl|exact Uw rfl hk|cases hkw) Vg (λk' kf' hr hw' ho=>by
  intro gs w sl t S V rk q hc;rcases hr with hr|⟨e1,e2⟩
  exact ihc _ (by rw[<-ec];exact hr) _ m mf k' kf' ea eb rfl rfl hw' ho hc
  ·exact ihd _ (by rw[<-ed];exact e2) m mf k' kf' ea eb (e1.trans ec) rfl hw' ho hc) hc hi (hQ.2 Xp)
 exact⟨m',ops,b1,.inl b2⟩
end
open Go.ConcN (sumTo upd sumTo_upd upd_ne upd_same)
open Go.ConcR (KK wgBlock WgAt stA smA rd wr mk DC0)
def GP(P:Program)(c:Nat)(z:Value)(fr:Frame)(cs:List Frame):Prop:=∀main w,stepG P main (G fr cs) w=.comm (G fr cs) #[rcase c z] true (.recv true) w #[]
def RcQ(P:Program)(c:Nat)(D:Goroutine->World->Prop)(g:Goroutine)(W:World):Prop:=
 ∃fr cs z,(g=G fr cs∨g = {parked (G fr cs) #[rcase c z] (.recv true) with status:=.running})∧GP P c z fr cs∧Gs P D (Go.Conc.served (G fr cs) (.tuple #[z,.bool false])) W
def Xz(P:Program)(ty:TypeId)(Wg:Nat)(F:World->Prop)(g:Goroutine)(W:World):Prop:=Lr P ty Wg g∧F W
def oZ(P:Program)(ty:TypeId)(Wg c:Nat)(F:World->Prop)(hF:∀{W W1},F W->Rv W W1->F W1):Wq P ty Wg where
 R:=RcQ P c (Xz P ty Wg F)
 D:=Xz P ty Wg F
 laterR:=λ⟨fr,cs,z,h1,h2,h3⟩ r=>⟨fr,cs,z,h1,h2,h3.later (λh r=>⟨h.1,hF h.2 r⟩) r⟩
 laterD:=λh r=>⟨h.1,hF h.2 r⟩
 runR:=λg W ⟨fr,cs,z,h1,_⟩=>by rcases h1 with rfl|rfl<;>rfl
 runD:=λg W ⟨⟨n,h⟩,_⟩ w hw=>cG h hw λg h=>h.1
theorem eA{P:Program}{Q Q':Goroutine->World->Prop}(hQ:∀g W,Q g W->Q' g W):∀{r:Rk} {g:Goroutine} {W:World},Xd P Q r g W->Xd P Q' r g W:=by
 intro r
 induction r with
 | leaf=>exact λh=>hQ _ _ h
 | mk f ih=>exact λh=>⟨h.1,λW1 r=>by obtain⟨g',W',h1,h2⟩:=h.2 W1 r;exact⟨g',W',h1,ih W1 h2⟩⟩
theorem O0{P:Program}{ty:TypeId}{Wg n:Nat}{Fin:Goroutine->Prop}{bl bl':Prop}{m:MK}{g:Goroutine}(hb:bl->bl')(h:QM P ty Wg Fin bl m n g):QM P ty Wg Fin bl' m n g:=by cases m<;>first|exact h|exact h.imp id λx=>⟨hb x.1,x.2⟩
theorem Mk{P:Program}{c:Nat}{z:Value}{fr:Frame}{cs:List Frame}{g:Goroutine}(h:GP P c z fr cs)(hg:g=G fr cs∨g = {parked (G fr cs) #[rcase c z] (.recv true) with status:=.running})(main:Bool)(w:World) :
  stepG P main g w=.comm (G fr cs) #[rcase c z] true (.recv true) w #[]:=by
 rcases hg with rfl|rfl;exact h main w;rw[stepG_tries];exact h main w
section
variable {P:Program}{ty:TypeId}{J Wg c:Nat}{F:World->Prop}{hF:∀{W W1},F W->Rv W W1->F W1}{Sst Rm:Nat->Prop}{lent0:Nat->Option Obj}{Fin:Goroutine->Prop}{hFin:∀g,Fin g->g.status=.running}{Zf:Nat->Prop}{zf:Nat->Option Obj}{hZ:Zf Wg}{w0:World}{m m':MK}{mf mf':Nat}{k k':WK}{kf kf':Nat}
 {gs:Array Goroutine} {w w':World} {t:Trace} {S:Nat->Nat->Prop} {V:Nat->World} {rk:Nat->Rk} {q:Nat->Nat} {g g':Goroutine} {es:Array Event} {sl:Option (Nat×Nat)} {Φ:Value->World->Prop} {w00:World} {S0:Nat->Prop}
def xy(P:Program)(Φ:Value->World->Prop)(w00:World)(S0:Nat->Prop)(Fin:Goroutine->Prop)(F:World->Prop)(w0:World)(Rm:Nat->Prop)(lent0:Nat->Option Obj)(c Wg:Nat):Prop:=
 ∀g,Fin g->∀(Wend W':World) (SJ:Nat->Prop),F Wend->(∀b:Nat,SJ b->Wend.heap[b]? = some (.cells #[] 0 (0,0)))->(∀(b:Nat) (o:Obj),¬SJ b->¬Rm b->Wend.heap[b]? = some o->W'.heap[b]? = some o)->(∀b:Nat,Rm b->W'.heap[b]? = lent0 b)->(∀b:Nat,SJ b->b<w0.heap.size->b=c∨b=Wg∨W'.heap[b]? = some (.cells #[] 0 (0,0)))->W'.heap[Wg]? = some (.cells #[] 0 (0,0))->Bas w0 W'->Er P Φ w00 S0 g W'
theorem MI(h:bC (Wk P ty J Wg c (oZ P ty Wg c F hF) (VQ Wg Sst) Sst Rm Fin hFin Zf zf hZ w0 m mf k kf) gs w t S V rk q)(i d:Nat):partners (gs.setIfInBounds i ph) d true=[]:=by
 refine partners_nil λj y hy=>?_;rcases getElem?_stand gs i j y hy with ⟨-,rfl⟩|⟨-,hy⟩
 rfl;have hw:=ef (Ht h);by_cases hj:j=0∨j=XA J k
 ·have hq:=h.walk j y hj hy;cases hr:rk j with
  | mk f=>rw[hr] at hq;exact offersAt_of_not_blocked (by rw[hq.1];decide) d true
  | leaf=>
   rw[hr] at hq;by_cases h0:j=0
   ·subst h0;rcases vY hFin (hq.1 rfl) hw with x|⟨_,_,g0,rfl,h0⟩
    exact offersAt_of_not_blocked (by rw[x];decide) d true;unfold offersAt;rw[show ({g0 with status:=.blocked} : Goroutine).offers=none from h0.2.1]
   have XR:j=XA J k:=hj.resolve_left h0;obtain⟨e,hk⟩:=pI (J:=J) (k:=k) (by rw[<-XR];exact h0);have:=Bj (oZ P ty Wg c F hF).runR (oZ P ty Wg c F hF).runD (hq.2 h0) hk hw;exact offersAt_of_not_blocked (by rw[this];decide) d true
 rcases (h.old j y hj hy).status with x|x<;>exact offersAt_of_not_blocked (by rw[x];decide) d true
set_option maxHeartbeats 4000000 in
theorem R9(hJ:J≠0)(hc:Zf c∧c≠Wg∧∃s r tm,zf c=some (.chan 0 #[] true s r tm))(h:bC (Wk P ty J Wg c (oZ P ty Wg c F hF) (VQ Wg Sst) Sst Rm Fin hFin Zf zf hZ w0 m mf .rc kf) gs w t S V rk q)(hi:gs[J]? = some g)(hQ:RcQ P c (Xz P ty Wg F) g (V J)) :
  ∃Vq V' rk' ops,runT P (crowd gs w sl) J=(.next (crowd Vq w sl),ops)∧bC (Wk P ty J Wg c (oZ P ty Wg c F hF) (VQ Wg Sst) Sst Rm Fin hFin Zf zf hZ w0 m mf .dn kf) Vq w (t++ops) S V' rk' q:=by
 obtain⟨fr,cs,z,hg,hrc,hgs⟩:=hQ;obtain⟨r,hr⟩:=hgs.dU;obtain⟨hcz,hcw,s,rr,tm,hcc⟩:=hc;have hchan:w.heap[c]? = some (.chan 0 #[] true s rr tm):=by have:=(h.common c hcz).2;change _=Xo ty Wg zf m .rc c at this;unfold Xo at this;rw[UC hcw] at this;exact this.trans hcc
 have Yy:(J==0)=false:=by simpa using hJ
 have U6:=crowd_recv_closed (P:=P) (sl:=sl) hi (by rw[Yy];exact Mk hrc hg false w) hchan (MI h J c);have U8:c<w.heap.size:=(E'.1 hchan).1;refine⟨_,_,_,_,U6,h.C7 (C':=Wk P ty J Wg c (oZ P ty Wg c F hF) (VQ Wg Sst) Sst Rm Fin hFin Zf zf hZ w0 m mf .dn kf) (w':=w) rfl (λ_=>Iff.rfl) rfl (Ch:=λ_=>False) (λb hb=>hb.elim) (qh.refl _ _) (i:=J) (.inr rfl) hi (r:=r) (eA (λa b Wn=>⟨λe=>Uw e hJ,λ_=>Wn⟩) hr) (λj y hj U2 hy=>?_) (λb hb=>h.common b hb) (λop U5=>?_) ?_ λj hj=>?_⟩;have Za:j=0:=(by rcases hj with x|x;exact x;exact Uw x U2);subst Za;exact eA (λa b Wn=>⟨λe=>O0 (λ_=>by decide) (Wn.1 e),λe=>Uw rfl e⟩) (h.walk 0 y hj hy);rw[ofEvents_none] at U5;simp at U5;rw[U5]
 ·have hI:ivP J Wg (VQ Wg Sst) Rm m.deaf (pR J m .rc) (Xc J Wg m .rc) (YL J Wg c w0.heap.size Zf Sst .rc) S w.heap.size t:=h.trace;refine hI.still (λop U5=>?_) λi hi=>⟨λe=>(by cases e),Knows.app _ hi.2⟩
  rw[ofEvents_none] at U5;simp at U5;rw[U5];exact⟨rfl,U8,λmm e=>by cases e⟩
 refine⟨λU2=>?_,λe=>?_⟩
 ·rcases hj with hj|⟨e,-⟩
  exact h.still j (.inl hj);exact Uw e U2
 rcases hj with ⟨e0,-⟩|⟨-,-,e0⟩
 exact Uw (e.symm.trans e0) hJ;cases e0
end
open Go.ConcN (sumTo upd sumTo_upd upd_ne upd_same)
open Go.ConcR (KK wgBlock WgAt stA smA rd wr mk DC0)
section
variable {P:Program}{ty:TypeId}{J Wg c:Nat}{F:World->Prop}{hF:∀{W W1},F W->Rv W W1->F W1}{Sst Rm:Nat->Prop}{lent0:Nat->Option Obj}{Fin:Goroutine->Prop}{hFin:∀g,Fin g->g.status=.running}{Zf:Nat->Prop}{zf:Nat->Option Obj}{hZ:Zf Wg}{w0:World}{m m':MK}{mf mf':Nat}{k k':WK}{kf kf':Nat}
 {gs:Array Goroutine} {w w':World} {t:Trace} {S:Nat->Nat->Prop} {V:Nat->World} {rk:Nat->Rk} {q:Nat->Nat} {g g':Goroutine} {es:Array Event} {sl:Option (Nat×Nat)} {Φ:Value->World->Prop} {w00:World} {S0:Nat->Prop}
set_option maxHeartbeats 4000000 in
theorem PI(hJ:J≠0)(Vg:dF m .dn)(hSW:∀b,Sst b->b≠Wg)(hc:c≠Wg∧Zf c∧∃s r tm,zf c=some (.chan 0 #[] true s r tm))(hzs:∀b,Sst b->Zf b)(Yx:∀b:Nat,S0 b->Sst b∧zf b=w00.heap[b]?)(ZJ:∀b:Nat,Sst b->S0 b∨w00.heap.size<=b)(Zt:w00.heap.size<=Wg)(hRm:∀b,Rm b->Zf b∧zf b=lent0 b∧¬VQ Wg Sst b∧∃cs tt fr,lent0 b=some (.cells cs tt fr))(HB:xy P Φ w00 S0 Fin F w0 Rm lent0 c Wg)
  (h:bC (Wk P ty J Wg c (oZ P ty Wg c F hF) (VQ Wg Sst) Sst Rm Fin hFin Zf zf hZ w0 m mf .dn kf) gs w t S V rk q) (hi:gs[J]? = some g) (hl:rk J=.leaf) (hQ:Xz P ty Wg F g (V J)) :
  ∃m' ops,runT P (crowd gs w sl) J=(.next m',ops)∧Ends P Φ m' (t++ops):=by
 obtain⟨⟨n,hdone⟩,hFV⟩:=hQ;have hI:ivP J Wg (VQ Wg Sst) Rm m.deaf (pR J m .dn) (Xc J Wg m .dn) (Ex1 J Wg c w0.heap.size Sst) S w.heap.size t:=h.trace;obtain⟨x1,x2,x3,x4,x6,x7,x5⟩:=hI.2.2.2;have hwg:w.heap[Wg]? = some (wgBlock ty (Zz m .dn) (Zm m .dn)):=Ht h;have YP:=h.view 0 (.inl rfl);have hvJ:=h.view J (.inr rfl);have hz1:∀b:Nat,Zf b->b≠Wg->w.heap[b]? = zf b:=λb hb U2=>by
  have:=(h.common b hb).2;change _=Xo ty Wg zf m .dn b at this;unfold Xo at this
  rwa [UC U2] at this
 have hS0W:S 0 Wg:=hI.2.2.1 0 (.inl rfl);have hapart:∀b:Nat,b<w.heap.size->S 0 b∨S J b∨Rm b:=λb hb=>h.apart 0 J (.inl rfl) (.inr rfl) (Ne.symm hJ) b hb
 -- Ye crew told anew
 let S':Nat->Nat->Prop:=λj b=>if j=J then b<w.heap.size else S j b;have WI:S' 0=S 0:=by funext b;exact UC (Ne.symm hJ)
 have WH:S' J=λb=>b<w.heap.size:=by funext b;exact UD rfl
 have hvJ':View (S' J) Rm w (mask (S' J) Rm w):=j7 (λb o hb ho=>by
  rw[WH] at hb;exact Uw (E'.1 ho).1 hb) (λb hb=>by rw[WH] at hb;exact hb) λb h1 hb=>by
  rw[WH] at h1;exact Uw (by rw[YP.size];exact YP.low (.inr hb)) h1
 let V':Nat->World:=λj=>if j=J then mask (S' J) Rm w else V j;have hV'0:V' 0=V 0:=UC (Ne.symm hJ);have hV'J:V' J=mask (S' J) Rm w:=UD rfl;have h':bC (Wk P ty J Wg c (oZ P ty Wg c F hF) (VQ Wg Sst) Sst Rm Fin hFin (λb=>S 0 b∨Rm b) (λb=>w.heap[b]?) (.inl hS0W) w0 m mf .rel n) gs w t S' V' rk q:=by
  refine⟨λj y hj hy=>?_,λj hj=>?_,λa b ha hb U2 x hx=>?_,λb hb=>?_,h.old,h.above,?_,λj hj=>?_,h.here,h.base⟩;by_cases e:j=J;subst e;rw[hi] at hy;obtain rfl:=Oi hy;rw[hl];exact⟨λe=>Uw e hJ,λ_=>hdone⟩;have Za:j=0:=hj.resolve_right e;subst Za;rw[hV'0];exact eA (λa b Wn=>⟨λe=>O0 (λ_=>by decide) (Wn.1 e),λe=>Uw rfl e⟩) (h.walk 0 y hj hy);by_cases e:j=J;subst e;rw[hV'J];exact hvJ';have Za:j=0:=hj.resolve_right e;subst Za;rw[hV'0,WI];exact YP;rcases ha with rfl|ha;rcases hb with rfl|hb;exact Uw rfl U2;have hb:b=J:=hb;rw[hb,WH];exact .inr (.inl hx);have ha:a=J:=ha;rw[ha,WH];exact .inl hx;refine⟨λj hj=>?_,?_⟩;rcases hb with hb|hb;left;by_cases e:j=J;rw[e,WH];exact x1 0 b (.inl rfl) hb;have Za:j=0:=hj.resolve_right e;rw[Za,WI];exact hb;exact .inr hb;show _=Xo ty Wg (λb=>w.heap[b]?) m .rel b;unfold Xo;by_cases e:b=Wg;rw[UD e,e];exact hwg;rw[UC e];refine⟨⟨hI.1.clean,λj hj kk a hk b hb=>?_,hI.1.seen⟩,⟨hI.2.1.d0,hI.2.1.dJ,hI.2.1.norel,hI.2.1.wg,λkk a h1 b h2=>(hI.2.1.all kk a h1 b h2).imp id (.imp (λz=>⟨λe=>(by cases e),z.2⟩) id)⟩,λj hj=>?_,?_⟩;by_cases e:j=J;rcases hI.1.known J (.inr rfl) kk a hk b hb with y|⟨y,yw⟩|y;rw[e,WH];exact .inl (x1 J b (.inr rfl) y);exact .inr (.inl ⟨y,yw⟩);rw[e];exact .inr (.inr y);have Za:j=0:=hj.resolve_right e;rw[Za,WI];exact hI.1.known 0 (.inl rfl) kk a hk b hb;by_cases e:j=J;rw[e,WH];exact x5;have Za:j=0:=hj.resolve_right e;rw[Za,WI];exact hS0W;show Ex2 Wg (λb=>S 0 b∨Rm b) Sst S' w.heap.size;refine⟨λb hb=>by rw[WI] at hb;exact .inl hb,λb hb=>by rw[WI];exact(x2 b hb).1,x5⟩;rcases hj with ⟨e,e2⟩|⟨e,-,-⟩
  rw[e];exact h.still 0 (.inl ⟨rfl,e2⟩);rw[e];exact hl
 -- Yk lies behind Ye join
 have HE:∀{mf kf gs w' sl t S' V rk q g},bC (Wk P ty J Wg c (oZ P ty Wg c F hF) (VQ Wg Sst) Sst Rm Fin hFin (λb=>S 0 b∨Rm b) (λb=>w.heap[b]?) (.inl hS0W) w0 .fin mf .gone kf) gs w' t S' V rk q->gs[0]? = some g->Fin g->Ends P Φ (crowd gs w' sl) t:=by intro mf' kf' Vq w' Xr t' S2 V2 rk2 q2 g2 hc2 hg2 hF2;refine Jk (λb hb=>?_) ZJ Zt (λb o hb hn ho=>?_) (λg hg w'' W' hz hb hv=>?_) hc2 hg2 hF2;obtain⟨a1,a2⟩:=Yx b hb;have U2:=hSW b a1;exact⟨a1,by rw[<-a2];exact hz1 b (hzs b a1) U2,U2⟩;have hlent:Rm b->Obj.plain o:=λhr=>(by obtain⟨a1,a2,a3,cs,tt,fr,a4⟩:=hRm b hr;have U2:b≠Wg:=λe=>a3 (.inr e);have WC:w.heap[b]? = some o:=ho;rw[hz1 b a1 U2,a2,a4] at WC;obtain rfl:=Oi WC;trivial);by_cases hr:Rm b;exact hlent hr;have hb:S 0 b:=hb.resolve_right hr;by_cases hsj:S J b;rcases x4 b hb hsj with y|rfl|rfl;exact Uw (.inl y) hn;obtain⟨hcw,hcz,s,r,tm,hcc⟩:=hc;have WC:w.heap[b]? = some o:=ho;rw[hz1 b hcz hcw,hcc] at WC;obtain rfl:=Oi WC;trivial;exact Uw (.inr rfl) hn;exact hvJ.plain b o (by rw[<-hvJ.same b hsj hr];exact ho);refine HB g hg (V J) W' (S J) hFV (λb hb=>hvJ.pois b hb) (λb o hb hnr ho=>?_) (λb hr=>?_) (λb hb U8=>?_) (hv.pois Wg (.inr rfl)) ⟨hv.os.symm.trans hb.os,hv.tape.symm.trans hb.tape,hv.output.symm.trans hb.output⟩;have hwb:w.heap[b]? = some o:=(by rw[hvJ.same b hb hnr];exact ho);have U8:b<w.heap.size:=(E'.1 hwb).1;have Yg:S 0 b:=(hapart b U8).resolve_right λx=>x.elim hb hnr;have U2:b≠Wg:=λe=>hb (e▸hI.2.2.1 J (.inr rfl));have hnj:¬VQ Wg Sst b:=λx=>x.elim (λy=>hb (x2 b y).2) U2;rw[<-hv.same b hnj (λx=>x),hz b (.inl Yg) U2];exact hwb;obtain⟨a1,a2,a3,-⟩:=hRm b hr;have U2:b≠Wg:=λe=>a3 (.inr e);rw[<-hv.same b a3 (λx=>x),hz b (.inr hr) U2,<-a2];exact hz1 b a1 U2;rcases x6 b hb U8 with y|y|y;exact .inr (.inr (hv.pois b (.inl y)));exact .inl y;exact .inr (.inl y)
 exact uE (k:=.rel) hJ (.inr rfl) rfl Vg (λk' kf' _ hw' ho=>by intro gs w sl t S V rk q hc;exact Nz hJ (.inr rfl) HE _ _ _ _ m mf k' kf' rfl rfl rfl rfl hw' ho hc) h' hi hdone
theorem NA(hJ:J≠0)(hSW:∀b,Sst b->b≠Wg)(hc:c≠Wg∧Zf c∧∃s r tm,zf c=some (.chan 0 #[] true s r tm))(hzs:∀b,Sst b->Zf b)(Yx:∀b:Nat,S0 b->Sst b∧zf b=w00.heap[b]?)(ZJ:∀b:Nat,Sst b->S0 b∨w00.heap.size<=b)(Zt:w00.heap.size<=Wg)(hRm:∀b,Rm b->Zf b∧zf b=lent0 b∧¬VQ Wg Sst b∧∃cs tt fr,lent0 b=some (.cells cs tt fr))(HB:xy P Φ w00 S0 Fin F w0 Rm lent0 c Wg) :
  ∀a b d:Nat,∀m mf k kf,m.dU=a->m.fuel mf=b->k.dU=d->k.walks=true->dF m k->∀{gs w sl t S V rk q},bC (Wk P ty J Wg c (oZ P ty Wg c F hF) (VQ Wg Sst) Sst Rm Fin hFin Zf zf hZ w0 m mf k kf) gs w t S V rk q->Ends P Φ (crowd gs w sl) t:=by
 intro a
 induction a using Nat.strongRecOn with|ind a iha=>?_
 intro b
 induction b using Nat.strongRecOn with|ind b ihb=>?_
 intro d
 induction d using Nat.strongRecOn with|ind d ihd=>?_
 intro m mf k kf ea eb ed hkw Vg gs w sl t S V rk q h;have IHm:∀m' mf',(m'.dU<a∨(m'.dU=a∧m'.fuel mf'<b))->dF m' k->∀{gs w sl t S V rk q},bC (Wk P ty J Wg c (oZ P ty Wg c F hF) (VQ Wg Sst) Sst Rm Fin hFin Zf zf hZ w0 m' mf' k kf) gs w t S V rk q->Ends P Φ (crowd gs w sl) t:=by
  intro m' mf' hl ho gs w sl t S V rk q hc;rcases hl with hl|⟨e,hl⟩
  exact iha _ hl _ _ m' mf' k kf rfl rfl rfl hkw ho hc;exact ihb _ hl _ m' mf' k kf e rfl rfl hkw ho hc
 have hk:k≠.gone:=λe=>by rw[e] at hkw;cases hkw
 have V8:m≠.fin:=λe=>hk (iU Vg (.inr (.inr (.inr (.inl e)))));refine lf (λhc=>zK hJ hc) ?_ h;intro gs w sl t S V rk q i g XG VA hi U6 hl hQ;by_cases Xp:i=0;subst Xp;have hm:=hQ.1 rfl;by_cases Wh:m=.own;subst Wh;obtain⟨n1,hm1⟩:=hm;have hok':dF .kd k:=(by cases k<;>simp_all [dF]);exact mz hJ (.inr rfl) (m1:=.kd) (n1:=n1) (.inr ⟨rfl,rfl⟩) ⟨by decide,by decide⟩ hok' (λm' mf' hr ho=>IHm m' mf' (.inl (by rw[<-ea];rcases hr with x|⟨x,_⟩<;>simp only[MK.dU] at x ⊢<;>omega)) ho) XG hi U6 hm1 hl;exact mz hJ (.inr rfl) (.inl ⟨rfl,rfl⟩) ⟨Wh,V8⟩ Vg (λm' mf' hr ho=>IHm m' mf' (by rw[<-ea,<-eb];exact hr) ho) XG hi U6 hm hl;have hiJ:i=XA J k:=VA.resolve_left Xp;have XS:i=J:=hiJ.trans (sQ hk);subst XS;have hq:=hQ.2 Xp;cases k with
 | rc=>
  obtain⟨Vq,V',rk',ops,b1,b2⟩:=R9 (sl:=sl) hJ ⟨hc.2.1,hc.1,hc.2.2⟩ XG hi hq;exact⟨_,_,b1,.inl (ihd 8 (by rw[<-ed];decide) m mf .dn kf ea eb rfl rfl Vg b2)⟩
 | dn=>
  obtain⟨m',ops,b1,b2⟩:=PI (sl:=sl) hJ Vg hSW hc hzs Yx ZJ Zt hRm HB XG hi hl hq;exact⟨m',ops,b1,.inl b2⟩
 | _=>cases hkw
end
open Go.ConcN (sumTo upd sumTo_upd upd_ne upd_same)
open Go.ConcR (KK wgBlock WgAt stA smA rd wr mk DC0)
def Uj(P:Program)(c:Nat)(v z:Value)(fr:Frame)(cs:List Frame):Prop:=∀main w,stepG P main (G fr cs) w=.comm (G fr cs) #[scase c v z] true .send w #[]
def XH(P:Program)(ty:TypeId)(Wg c:Nat)(Fin:Goroutine->Prop)(g:Goroutine)(W:World):Prop:=
 g.status=.running∧mayWake P g=true∧∃g',g'.status=.running∧(∀w s r tm,w.heap[c]? = some (.chan 0 #[] false s r tm)->stepG P true g w=.go g' {w with heap:=w.heap.setIfInBounds c (.chan 0 #[] true s r tm)} #[⟨.obj c,false,true⟩,⟨.obj c,true,true⟩])∧Gs P (λg _=>oX P true ty Wg Fin g) g' W
def MP(P:Program)(c:Nat)(Cl:Goroutine->World->Prop):List Value->Bool->Goroutine->World->Prop
 | [],p,g,W=>p=false∧Cl g W
 | v::vs,p,g,W=>∃fr cs z,g=(if p=true then parked (G fr cs) #[scase c v z] .send else G fr cs)∧Uj P c v z fr cs∧Gs P (MP P c Cl vs false) (Go.Conc.served (G fr cs) undef) W
def RP(P:Program)(c:Nat)(D:Goroutine->World->Prop):List Value->Bool->Goroutine->World->Prop
 | [],p,g,W=>∃fr cs z,g=(if p=true then parked (G fr cs) #[rcase c z] (.recv true) else G fr cs)∧GP P c z fr cs∧Gs P D (Go.Conc.served (G fr cs) (.tuple #[z,.bool false])) W
 | v::vs,p,g,W=>∃fr cs z,g=(if p=true then parked (G fr cs) #[rcase c z] (.recv true) else G fr cs)∧GP P c z fr cs∧Gs P (RP P c D vs false) (Go.Conc.served (G fr cs) (.tuple #[v,.bool true])) W
section
variable {P:Program}{c:Nat}{Cl D:Goroutine->World->Prop}{vs:List Value}{p:Bool}{g a a':Goroutine}{W W1 w':World}{s r:Nat}{tm:Bool}
theorem j0(hC:∀{g W W1},Cl g W->Rv W W1->Cl g W1):∀{vs:List Value} {p:Bool} {g:Goroutine} {W W1:World},MP P c Cl vs p g W->Rv W W1->MP P c Cl vs p g W1
 | [],_,_,_,_,h,k=>⟨h.1,hC h.2 k⟩
 | _::_,_,_,_,_,⟨fr,cs,z,h1,h2,h3⟩,k=>⟨fr,cs,z,h1,h2,h3.later (λx y=>j0 hC x y) k⟩
theorem ij(hD:∀{g W W1},D g W->Rv W W1->D g W1):∀{vs:List Value} {p:Bool} {g:Goroutine} {W W1:World},RP P c D vs p g W->Rv W W1->RP P c D vs p g W1
 | [],_,_,_,_,⟨fr,cs,z,h1,h2,h3⟩,k=>⟨fr,cs,z,h1,h2,h3.later hD k⟩
 | _::_,_,_,_,_,⟨fr,cs,z,h1,h2,h3⟩,k=>⟨fr,cs,z,h1,h2,h3.later (λx y=>ij hD x y) k⟩
theorem sK(hC:∀g W,Cl g W->g.status=.running)(h:MP P c Cl vs p g W):g.status=if p=true then .blocked else .running:=by
 cases vs with
 | nil=>obtain⟨rfl,h⟩:=h;exact hC g W h
 | cons v vs=>obtain⟨fr,cs,z,rfl,-⟩:=h;cases p<;>rfl
theorem qW(h:RP P c D vs p g W):∃fr cs z,g=(if p=true then parked (G fr cs) #[rcase c z] (.recv true) else G fr cs)∧GP P c z fr cs:=by
 cases vs with
 | nil=>obtain⟨fr,cs,z,h1,h2,-⟩:=h;exact⟨fr,cs,z,h1,h2⟩
 | cons v vs=>obtain⟨fr,cs,z,h1,h2,-⟩:=h;exact⟨fr,cs,z,h1,h2⟩
theorem sc(h:RP P c D vs p g W):g.status=if p=true then .blocked else .running:=by obtain⟨fr,cs,z,rfl,-⟩:=qW h;cases p<;>rfl
theorem ML(hC:∀g W,Cl g W->g.status=.running)(h:MP P c Cl vs p g W)(hc:w'.heap[c]? = some (.chan 0 #[] false s r tm)):woken P a a' w' g=g:=by
 cases p with
 | false=>exact woken_run (sK hC h)
 | true=>
  cases vs with
  | nil=>cases h.1
  | cons v vs=>obtain⟨fr,cs,z,rfl,-⟩:=h;exact woken_send_open _ _ hc
theorem L8(h:RP P c D vs p g W)(hc:w'.heap[c]? = some (.chan 0 #[] false s r tm)):woken P a a' w' g=g:=by
 cases p with
 | false=>exact woken_run (sc h)
 | true=>obtain⟨fr,cs,z,rfl,-⟩:=qW h;exact woken_recv_open _ _ hc
theorem Fi(hC:∀g W,Cl g W->g.status=.running)(h:MP P c Cl vs p g W)(d:Nat):offersAt g d false=[]:=by
 cases p with
 | false=>exact offersAt_of_not_blocked (by rw[sK hC h];decide) d _
 | true=>
  cases vs with
  | nil=>cases h.1
  | cons v vs=>obtain⟨fr,cs,z,rfl,-⟩:=h;exact offersAt_parked_send' _ _ _ _ _ d
theorem E3(h:RP P c D vs p g W)(d:Nat):offersAt g d true=[]:=by
 cases p with
 | false=>exact offersAt_of_not_blocked (by rw[sc h];decide) d _
 | true=>obtain⟨fr,cs,z,rfl,-⟩:=qW h;exact offersAt_parked_recv' _ _ _ _ d
end
def zOp(ty:TypeId)(Wg c:Nat)(zs:Nat->Option Obj)(s r:Nat)(tm:Bool)(b:Nat):Option Obj:=if b=Wg then some (wgBlock ty KK 0) else if b=c then some (.chan 0 #[] false s r tm) else zs b
def ZbO(Wg c:Nat)(Sst Rm:Nat->Prop)(b:Nat):Prop:=b=c∨b=Wg∨Sst b∨Rm b
def KJc(J c:Nat)(t:Trace)(k:Nat):Prop:=Knows t J k∧k<t.size∧∀x:Touch,touchAt t k=some x->∀b,kl x.loc=some b->b≠c
theorem Dz{J c:Nat}{t:Trace}{k:Nat}(u:Trace)(h:KJc J c t k):KJc J c (t++u) k:=⟨h.1.app u,by rw[Array.size_append];have:=h.2.1;omega,λx hx b hb=>by
 obtain⟨y,hy,hya⟩:=touch_of hx;rcases getElem?_append_cases hy with ⟨U8,hy'⟩|⟨ZE,_⟩
 exact h.2.2 x (by rw[touchAt_of hy'];exact hya) b hb;have:=h.2.1;omega⟩
def XZ(P:Program)(ty:TypeId)(J Wg c:Nat)(Cl D:Goroutine->World->Prop)(hC:∀{g W W1},Cl g W->Rv W W1->Cl g W1)(hCr:∀g W,Cl g W->g.status=.running)(hD:∀{g W W1},D g W->Rv W W1->D g W1)(hcw:c≠Wg)
  (Sst Rm:Nat->Prop) (zs:Nat->Option Obj) (w0:World) (vs:List Value) (pm pw:Bool) (s r:Nat) (tm:Bool):Cw P:=
 cwP P J Wg (VQ Wg Sst) Rm (λi=>(i=0∧pm=true)∨(i=J∧i≠0∧pw=true)) (λi g W=>(i=0->MP P c Cl vs pm g W)∧(i≠0->RP P c D vs pw g W)) (ZbO Wg c Sst Rm) (zOp ty Wg c zs s r tm) 0 0 (KJc J c) (Ex1 J Wg c w0.heap.size Sst) w0
  (λh k=>⟨λe=>j0 (Cl:=Cl) (λx y=>hC x y) (h.1 e) k,λe=>ij (D:=D) (λx y=>hD x y) (h.2 e) k⟩)
  (λ{i g p p' W w'} h hz=>by have hc:=hz c (.inl rfl);unfold zOp at hc;rw[UC hcw,UD rfl] at hc;by_cases e:i=0;have h1:=h.1 e;refine⟨λ_=>?_,λx=>Uw e x⟩;rw[ML hCr h1 hc];exact h1;have h1:=h.2 e;refine⟨λx=>Uw x e,λ_=>?_⟩;rw[L8 h1 hc];exact h1)
  (λt u k h=>Dz u h)
  (λ_ _ S n hE t p y hy hg hs=>⟨by have:=knows_own hy;rwa [hg] at this,lt_size_of_getElem? hy,λx hx b hb e=>hs x b (by rw[<-touchAt_of hy];exact hx) hb (e▸hE.2.2.1.2)⟩)
  (λ{S n n' i} hi _ hn h=>D7 (J:=J) (Wg:=Wg) (c:=c) (n0:=w0.heap.size) (Zf:=λ_=>False) (Sst:=Sst) (k:=.rc) (m:=.own) (S:=S) (n:=n) (n':=n') (i:=i) hi (by rintro(⟨-,x⟩|⟨-,-,x⟩);exact x rfl;cases x) hn h)
end Go.Proofs.YtgigkennhdolpaaGreatDoor
