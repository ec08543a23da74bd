/- Company, 34: the meetings, the closing; from the first send all runs to the join. Company, 35: the starter adds one to the group and starts the worker: a phase with one worker, from Add to the join. -/
import Derived.Test.YtgigkennhdolpaaGreatDoorM26
namespace Go.Proofs.YtgigkennhdolpaaGreatDoor
open Go.Conc Go.ConcN
open Go.ConcN (sumTo upd sumTo_upd upd_ne upd_same)
open Go.ConcR (KK wgBlock WgAt stA smA rd wr mk DC0)
section
variable {P:Program}{ty:TypeId}{J Wg c:Nat}{F:World→Prop}{hF:∀{W W1},F W→Rv W W1→F W1}{Sst Rm:Nat→Prop}{lent0:Nat→Option Obj}{Fin:Goroutine→Prop}{hFin:∀g,Fin g→g.status=.running}{zs:Nat→Option Obj}{w0:World}{vs:List Value}{v:Value}{pm pw:Bool}{s r:Nat}{tm:Bool}
 {Cl D:Goroutine→World→Prop} {hC:∀{g W W1},Cl g W→Rv W W1→Cl g W1} {hCr:∀g W,Cl g W→g.status=.running} {hD:∀{g W W1},D g W→Rv W W1→D g W1} {hcw:c≠Wg}
 {gs:Array Goroutine} {w w':World} {t:Trace} {S:Nat→Nat→Prop} {V:Nat→World} {rk:Nat→Rk} {q:Nat→Nat} {g g':Goroutine} {es:Array Event} {sl:Option (Nat×Nat)} {Φ:Value→World→Prop} {w00:World} {S0:Nat→Prop}
theorem met_crew(hJ:J≠0)(h:bx (cw0 P ty J Wg c Cl D hC hCr hD hcw Sst Rm zs w0 (v::vs) pm pw s r tm) gs w t S V rk q){g1 g2:Goroutine}(h1:Gs P (MP P c Cl vs false) g1 (V 0))(h2:Gs P (RP P c D vs false) g2 (V J)){u:Trace}
  (hu:∀op∈u,(op.g=0∨op.g=J)∧op.act.touch? = none∧op.act.low w.heap.size∧∀m,op.act≠.mark m) (i j:Nat) (hij:(i=0∧j=J)∨(i=J∧j=0)) :
  ∃V' rk',bx (cw0 P ty J Wg c Cl D hC hCr hD hcw Sst Rm zs w0 vs false false (s+1) (r+1) tm) ((gs.setIfInBounds j (if j=0 then g1 else g2)).setIfInBounds i (if i=0 then g1 else g2)) (w.setChan c 0 #[] false (s+1) (r+1) tm) (t++u) S V' rk' q:=by
 obtain⟨r1,hr1⟩:=h1.dh
 obtain⟨r2,hr2⟩:=h2.dh
 have hc:=lj h
 have hI:=iv_of h
 have hsc:∀k,k=0∨k=J→S k c:=fun k hk=>by
  obtain⟨-,-,⟨x,y⟩,-⟩:=hI.2.2.2
  rcases hk with rfl|rfl
  ·exact x
  ·exact y
 have q1:GsR P ((cw0 P ty J Wg c Cl D hC hCr hD hcw Sst Rm zs w0 vs false false (s+1) (r+1) tm).Q 0) r1 g1 (V 0):=dz (fun a b hab=>⟨fun _=>hab,fun e=>absurd rfl e⟩) hr1
 have q2:GsR P ((cw0 P ty J Wg c Cl D hC hCr hD hcw Sst Rm zs w0 vs false false (s+1) (r+1) tm).Q J) r2 g2 (V J):=dz (fun a b hab=>⟨fun e=>absurd e hJ,fun _=>hab⟩) hr2
 have hzb:∀b:Nat,ZbO Wg c Sst Rm b→(∀k,(k=0∨k=J)→S k b∨Rm b)∧(w.setChan c 0 #[] false (s+1) (r+1) tm).heap[b]? = zOp ty Wg c zs (s+1) (r+1) tm b:=fun b hb=>by
  refine⟨(h.common b hb).1,?_⟩
  have h0:=(h.common b hb).2
  change _=zOp ty Wg c zs s r tm b at h0
  unfold zOp at h0 ⊢
  by_cases e:b=c
  ·subst e
   rw[if_neg hcw,if_pos rfl]
   exact heap_put hc
  ·rw[if_neg e] at h0 ⊢
   rw[←h0]
   exact(Aside.put c w _).block b e
 have hiv:=iv_comm hI (u:=u) fun op hop=>(hu op hop).2
 have hh0:=h.here 0 (.inl rfl)
 have hhJ:=h.here J (.inr rfl)
 rcases hij with ⟨rfl,rfl⟩|⟨rfl,rfl⟩
 ·rw[if_neg hJ,if_pos rfl]
  exact⟨_,_,h.reMeet (C':=cw0 P ty j Wg c Cl D hC hCr hD hcw Sst Rm zs w0 vs false false (s+1) (r+1) tm) rfl (fun _=>Iff.rfl) rfl (Ch:=fun b=>b=c) (fun b hb k hk=>hb▸hsc k hk) (js (Aside.put c w _)) (.inl rfl) (.inr rfl) hJ hh0 hhJ (fun k hk=>hk) q1 q2 hzb (fun op hop=>(hu op hop).1) hiv (by rintro k (⟨-,x⟩|⟨-,-,x⟩)<;>cases x)⟩
 ·rw[if_pos rfl,if_neg hJ]
  exact⟨_,_,h.reMeet (C':=cw0 P ty i Wg c Cl D hC hCr hD hcw Sst Rm zs w0 vs false false (s+1) (r+1) tm) rfl (fun _=>Iff.rfl) rfl (Ch:=fun b=>b=c) (fun b hb k hk=>hb▸hsc k hk) (js (Aside.put c w _)) (.inr rfl) (.inl rfl) (Ne.symm hJ) hhJ hh0 (fun k hk=>hk.symm) q2 q1 hzb (fun op hop=>(hu op hop).1.symm) hiv (by rintro k (⟨-,x⟩|⟨-,-,x⟩)<;>cases x)⟩
theorem main_meets(hJ:J≠0)(h:bx (cw0 P ty J Wg c Cl D hC hCr hD hcw Sst Rm zs w0 (v::vs) false true s r tm) gs w t S V rk q)(hi:gs[0]? = some g)(hm:MP P c Cl (v::vs) false g (V 0)) :
  ∃gs' w' V' rk' ops,runT P (crowd gs w sl) 0=(.next (crowd gs' w' sl),ops)∧bx (cw0 P ty J Wg c Cl D hC hCr hD hcw Sst Rm zs w0 vs false false (s+1) (r+1) tm) gs' w' (t++ops) S V' rk' q:=by
 obtain⟨fr,cs,z,hg,hs,hgs⟩:=hm
 rw[if_neg (by decide)] at hg
 subst hg
 have hc:=lj h
 have hlt:c<w.heap.size:=(Array.getElem?_eq_some_iff.1 hc).1
 have hhJ:=h.here J (.inr rfl)
 have hy:gs[J]? = some gs[J]:=Array.getElem?_eq_getElem hhJ
 have hlJ:=h.still J (.inr ⟨rfl,hJ,rfl⟩)
 have hq:=h.walk J _ (.inr rfl) hy
 rw[hlJ] at hq
 obtain⟨fr2,cs2,z2,hg2,hs2,hgs2⟩:=hq.2 hJ
 rw[if_pos rfl] at hg2
 rw[hg2] at hy
 have hpart:partners (gs.setIfInBounds 0 ph) c false=[(J,0)]:=by
  rw[partners_one (j:=J) (g:=parked (G fr2 cs2) #[rcase c z2] (.recv true)) (by rw[Array.getElem?_setIfInBounds_ne (Ne.symm hJ)];exact hy) (fun k x hk hx=>by
   rcases getElem?_stand gs 0 k x hx with ⟨-,rfl⟩|⟨hne,hx⟩
   ·rfl
   ·rcases st0 h k x hx with ⟨e,_⟩|⟨_,e,_⟩|⟨_,_,e⟩
    ·exact absurd e hne
    ·exact absurd e hk
    ·exact e _ _),offersAt_parked_recv,if_pos rfl]
  rfl
 have hrun:=crowd_send_meets (P:=P) (sl:=sl) hi (hs true w) hc hJ hy hpart
 obtain⟨V',rk',hcr⟩:=met_crew (v:=v) hJ h hgs hgs2 (u:=MemOp.ofEvents 0 (G fr cs).frame.fn (G fr cs).frame.place #[]++#[{g:=0,fn:=(G fr cs).frame.fn,pos:=(G fr cs).frame.place,act:=.send c s},{g:=J,fn:=(G fr2 cs2).frame.fn,pos:=(G fr2 cs2).frame.place,act:=.recv c r 0},{g:=0,fn:=(G fr cs).frame.fn,pos:=(G fr cs).frame.place,act:=.sendDone c s},{g:=J,fn:=(G fr2 cs2).frame.fn,pos:=(G fr2 cs2).frame.place,act:=.recvDone c r}]) (fun op hop=>by
  rw[ofEvents_none] at hop
  simp at hop
  rcases hop with rfl|rfl|rfl|rfl
  ·exact⟨.inl rfl,rfl,hlt,fun m e=>by cases e⟩
  ·exact⟨.inr rfl,rfl,hlt,fun m e=>by cases e⟩
  ·exact⟨.inl rfl,rfl,hlt,fun m e=>by cases e⟩
  ·exact⟨.inr rfl,rfl,hlt,fun m e=>by cases e⟩) 0 J (.inl ⟨rfl,rfl⟩)
 rw[if_neg hJ,if_pos rfl] at hcr
 exact⟨_,_,V',rk',_,hrun,hcr⟩
theorem work_meets(hJ:J≠0)(h:bx (cw0 P ty J Wg c Cl D hC hCr hD hcw Sst Rm zs w0 (v::vs) true false s r tm) gs w t S V rk q)(hi:gs[J]? = some g)(hm:RP P c D (v::vs) false g (V J)) :
  ∃gs' w' V' rk' ops,runT P (crowd gs w sl) J=(.next (crowd gs' w' sl),ops)∧bx (cw0 P ty J Wg c Cl D hC hCr hD hcw Sst Rm zs w0 vs false false (s+1) (r+1) tm) gs' w' (t++ops) S V' rk' q:=by
 obtain⟨fr,cs,z,hg,hs,hgs⟩:=hm
 rw[if_neg (by decide)] at hg
 subst hg
 have hJ0:(J==0)=false:=by simpa using hJ
 have hc:=lj h
 have hlt:c<w.heap.size:=(Array.getElem?_eq_some_iff.1 hc).1
 have hh0:=h.here 0 (.inl rfl)
 have hy:gs[0]? = some gs[0]:=Array.getElem?_eq_getElem hh0
 have hl0:=h.still 0 (.inl ⟨rfl,rfl⟩)
 have hq:=h.walk 0 _ (.inl rfl) hy
 rw[hl0] at hq
 obtain⟨fr2,cs2,z2,hg2,hs2,hgs2⟩:=hq.1 rfl
 rw[if_pos rfl] at hg2
 rw[hg2] at hy
 have hpart:partners (gs.setIfInBounds J ph) c true=[(0,0)]:=by
  rw[partners_one (j:=0) (g:=parked (G fr2 cs2) #[scase c v z2] .send) (by rw[Array.getElem?_setIfInBounds_ne hJ];exact hy) (fun k x hk hx=>by
   rcases getElem?_stand gs J k x hx with ⟨-,rfl⟩|⟨hne,hx⟩
   ·rfl
   ·rcases st0 h k x hx with ⟨e,_⟩|⟨_,e,_⟩|⟨_,_,e⟩
    ·exact absurd e hk
    ·exact absurd e hne
    ·exact e _ _),offersAt_parked_send,if_pos rfl]
  rfl
 have hrun:=crowd_recv_meets (P:=P) (sl:=sl) hi (by rw[hJ0];exact hs false w) hc (Ne.symm hJ) hy hpart
 obtain⟨V',rk',hcr⟩:=met_crew (v:=v) hJ h hgs2 hgs (u:=MemOp.ofEvents J (G fr cs).frame.fn (G fr cs).frame.place #[]++#[{g:=0,fn:=(G fr2 cs2).frame.fn,pos:=(G fr2 cs2).frame.place,act:=.send c s},{g:=J,fn:=(G fr cs).frame.fn,pos:=(G fr cs).frame.place,act:=.recv c r 0},{g:=0,fn:=(G fr2 cs2).frame.fn,pos:=(G fr2 cs2).frame.place,act:=.sendDone c s},{g:=J,fn:=(G fr cs).frame.fn,pos:=(G fr cs).frame.place,act:=.recvDone c r}]) (fun op hop=>by
  rw[ofEvents_none] at hop
  simp at hop
  rcases hop with rfl|rfl|rfl|rfl
  ·exact⟨.inl rfl,rfl,hlt,fun m e=>by cases e⟩
  ·exact⟨.inr rfl,rfl,hlt,fun m e=>by cases e⟩
  ·exact⟨.inl rfl,rfl,hlt,fun m e=>by cases e⟩
  ·exact⟨.inr rfl,rfl,hlt,fun m e=>by cases e⟩) J 0 (.inr ⟨rfl,rfl⟩)
 rw[if_pos rfl,if_neg hJ] at hcr
 exact⟨_,_,V',rk',_,hrun,hcr⟩
theorem iv_shut{KJ':Trace→Nat→Prop}{Sh:Nat→Prop}{Ex:(Nat→Nat→Prop)→Nat→Prop}{n:Nat}{fn:FuncId}{pos:String}(h:ivP J Wg Sh Rm 0 0 (KJc J c) Ex S n t)(hcw:c≠Wg)(hlt:c<n)(hS:S J c)(kj:∀k,KJc J c t k→KJ' (t++MemOp.ofEvents 0 fn pos #[⟨.obj c,false,true⟩,⟨.obj c,true,true⟩]) k) :
  ivP J Wg Sh Rm 0 0 KJ' Ex S n (t++MemOp.ofEvents 0 fn pos #[⟨.obj c,false,true⟩,⟨.obj c,true,true⟩]):=by
 have hu:∀op∈MemOp.ofEvents 0 fn pos #[⟨.obj c,false,true⟩,⟨.obj c,true,true⟩],op.g=0∧(op.act=.access ⟨.obj c,false,true⟩∨op.act=.close c):=fun op hop=>by
  obtain⟨e,he,rfl⟩:=Go.Conc.mem_ofEvents hop
  simp at he
  rcases he with rfl|rfl
  ·exact⟨rfl,.inl rfl⟩
  ·exact⟨rfl,.inr rfl⟩
 have ht:∀op∈MemOp.ofEvents 0 fn pos #[⟨.obj c,false,true⟩,⟨.obj c,true,true⟩],∀b,op.act.touch? = some b→b=⟨.obj c,false,.atomic⟩:=fun op hop b hb=>by
  rcases (hu op hop).2 with e|e
  ·rw[e] at hb;simpa[MemAct.touch?] using hb.symm
  ·rw[e] at hb;cases hb
 have hd:∀g,Deaf (t++MemOp.ofEvents 0 fn pos #[⟨.obj c,false,true⟩,⟨.obj c,true,true⟩]) g=Deaf t g:=fun g=>Deaf_quiet fun op hop d=>by
  unfold deafStep
  split<;>first|rfl|(rename_i e;rcases (hu op hop).2 with x|x<;>(rw[x] at e;cases e))
 refine⟨h.1.act_ (i:=0) (fun op hop=>(hu op hop).1) (fun said k a hk op hop b hb hc=>?_) (fun op hop b hb b0 hb0 j hj hne=>?_) (fun op hop=>?_),h.2.1.app ((hd 0).trans h.2.1.d0) ((hd J).trans h.2.1.dJ) (fun op hop a e=>?_) (fun op hop x hx hb=>?_) kj fun p op hp _ hop x hx b hb=>.inl (hu op hop).1,h.2.2⟩
 ·have hl:=hc.1
  rw[ht op hop b hb] at hl
  rcases h.2.1.all k a hk c (by rw[hl];rfl) with x|x|x
  ·exact x
  ·exact absurd rfl (x.2.2 a hk c (by rw[hl];rfl))
  ·obtain⟨ad,had⟩:=x.2.1
   rw[hl] at had
   cases had
 ·rw[ht op hop b hb] at hb0
  obtain rfl:c=b0:=Oi hb0
  rcases hj with rfl|rfl
  ·exact absurd rfl hne
  ·exact hS
 ·rcases (hu op hop).2 with x|x<;>rw[x]<;>exact hlt
 ·rcases (hu op hop).2 with x|x<;>(rw[x] at e;cases e)
 ·rw[ht op hop x hx] at hb
  exact absurd (Oi hb) hcw
def zCl(c:Nat)(zs:Nat→Option Obj)(s r:Nat)(tm:Bool)(b:Nat):Option Obj:=if b=c then some (.chan 0 #[] true s r tm) else zs b
set_option maxHeartbeats 4000000 in
theorem main_closes(hJ:J≠0){hC':∀{g W W1},ClQ P ty Wg c Fin g W→Rv W W1→ClQ P ty Wg c Fin g W1}{hCr':∀g W,ClQ P ty Wg c Fin g W→g.status=.running}{hD':∀{g W W1},DnQ P ty Wg F g W→Rv W W1→DnQ P ty Wg F g W1}
  (h:bx (cw0 P ty J Wg c (ClQ P ty Wg c Fin) (DnQ P ty Wg F) hC' hCr' hD' hcw Sst Rm zs w0 [] false pw s r tm) gs w t S V rk q) (hi:gs[0]? = some g) (hm:ClQ P ty Wg c Fin g (V 0)) :
  ∃gs' w' V' rk' ops,runT P (crowd gs w sl) 0=(.next (crowd gs' w' sl),ops)∧bx (cw2 P ty J Wg c (ni P ty Wg c F hF) (Sjn Wg Sst) Sst Rm Fin hFin (ZbO Wg c Sst Rm) (zCl c zs s r tm) (.inr (.inl rfl)) w0 .own 0 .rc 0) gs' w' (t++ops) S V' rk' q:=by
 obtain⟨-,hmw,g',hrun',hst,hgs⟩:=hm
 obtain⟨r1,hr1⟩:=hgs.dh
 have hc:=lj h
 have hI:=iv_of h
 have hlt:c<w.heap.size:=(Array.getElem?_eq_some_iff.1 hc).1
 have hsc:∀k,k=0∨k=J→S k c:=fun k hk=>by
  obtain⟨-,-,⟨x,y⟩,-⟩:=hI.2.2.2
  rcases hk with rfl|rfl
  ·exact x
  ·exact y
 have hrun:=runT_crowd_go (P:=P) (sl:=sl) (i:=0) hi (hst w s r tm hc)
 have hput:=heap_put (o':=.chan 0 #[] true s r tm) hc
 refine⟨_,_,_,_,_,hrun,h.reGo (C':=cw2 P ty J Wg c (ni P ty Wg c F hF) (Sjn Wg Sst) Sst Rm Fin hFin (ZbO Wg c Sst Rm) (zCl c zs s r tm) (.inr (.inl rfl)) w0 .own 0 .rc 0) rfl (fun _=>Iff.rfl) rfl (Ch:=fun b=>b=c) (fun b hb k hk=>hb▸hsc k hk) (js (Aside.put c w _)) (.inl rfl) hi (r:=r1) (dz (fun a b hab=>⟨fun _=>hab,fun e=>absurd rfl e⟩) hr1) (fun j y hj hne hy=>?_) (fun b hb=>?_) ?_ fun j hj=>⟨fun hne=>?_,fun e=>?_⟩⟩
 ·have hjJ:j=J:=hj.resolve_left hne
  have hq:=h.walk j y hj hy
  cases hr:rk j with
  | mk f=>
   rw[hr] at hq
   rw[woken_run hq.1]
   have hpw:pw=false:=by
    cases hp:pw with
    | false=>rfl
    | true=>have:=h.still j (.inr ⟨hjJ,hne,hp⟩);rw[hr] at this;cases this
   subst hpw
   refine dz (fun a b hab=>⟨fun e=>absurd e hne,fun e=>?_⟩) hq
   obtain⟨fr,cs,z,x1,x2,x3⟩:=hab.2 e
   rw[if_neg (by decide)] at x1
   exact⟨fr,cs,z,.inl x1,x2,x3⟩
  | leaf=>
   rw[hr] at hq
   obtain⟨fr,cs,z,x1,x2,x3⟩:=hq.2 hne
   refine⟨fun e=>absurd e hne,fun _=>?_⟩
   cases pw with
   | false=>
    rw[if_neg (by decide)] at x1
    subst x1
    rw[woken_run rfl]
    exact⟨fr,cs,z,.inl rfl,x2,x3⟩
   | true=>
    rw[if_pos rfl] at x1
    subst x1
    have hw:woken P g g' {w with heap:=w.heap.setIfInBounds c (.chan 0 #[] true s r tm)} (parked (G fr cs) #[rcase c z] (.recv true)) = {parked (G fr cs) #[rcase c z] (.recv true) with status:=.running}:=by
     have a2:(g'.status != .blocked&&g'.status != .waiting)=true:=by rw[hrun'];rfl
     unfold woken
     rw[hmw,Bool.true_and,if_pos a2]
     exact again_recv_closed hput
    rw[hw]
    exact⟨fr,cs,z,.inr rfl,x2,x3⟩
 ·refine⟨(h.common b hb).1,?_⟩
  have h0:=(h.common b hb).2
  change _=zOp ty Wg c zs s r tm b at h0
  show _=zOf ty Wg (zCl c zs s r tm) .own .rc b
  unfold zOp at h0
  unfold zOf zCl
  by_cases e:b=c
  ·subst e
   rw[if_neg hcw,if_pos rfl]
   exact hput
  ·rw[if_neg e] at h0 ⊢
   have h1:({w with heap:=w.heap.setIfInBounds c (.chan 0 #[] true s r tm)} : World).heap[b]? = w.heap[b]?:=(Aside.put c w _).block b e
   rw[h1,h0]
   rfl
 ·show ivP J Wg (Sjn Wg Sst) Rm 0 (nV J .own .rc) (KJ2 J Wg .own .rc) (Ex1 J Wg c w0.heap.size Sst) S w.heap.size _
  have hdw:nV J .own .rc=0:=if_neg hJ
  rw[hdw]
  exact iv_shut hI hcw hlt (hsc J (.inr rfl)) fun k hk=>⟨fun e=>(by cases e),Knows.app _ hk.1⟩
 ·rcases hj with ⟨e,-⟩|⟨-,-,e⟩
  ·exact absurd e hne
  ·cases e
 ·rcases hj with ⟨-,e2⟩|⟨-,-,e2⟩
  ·exact absurd rfl e2
  ·cases e2
theorem e0_runs(hJ:J≠0){hC':∀{g W W1},ClQ P ty Wg c Fin g W→Rv W W1→ClQ P ty Wg c Fin g W1}{hCr':∀g W,ClQ P ty Wg c Fin g W→g.status=.running}{hD':∀{g W W1},DnQ P ty Wg F g W→Rv W W1→DnQ P ty Wg F g W1}
  (hF:∀{W W1},F W→Rv W W1→F W1) (hFin:∀g,Fin g→g.status=.running) (hSW:∀b,Sst b→b≠Wg∧b≠c) (hS0:∀b:Nat,S0 b→Sst b∧zs b=w00.heap[b]?) (hSst:∀b:Nat,Sst b→S0 b∨w00.heap.size≤b) (hWg:w00.heap.size≤Wg) (hRm:∀b,Rm b→zs b=lent0 b∧¬Sst b∧b≠Wg∧b≠c∧∃cs tt fr,lent0 b=some (.cells cs tt fr)) (HB:Behind P Φ w00 S0 Fin F w0 Rm lent0 c Wg) :
  ∀n:Nat,∀(vs:List Value) (pm pw:Bool) (s r:Nat) (tm:Bool),2*vs.length+(if pm=true∨pw=true then 0 else 1)=n→¬(pm=true∧pw=true)→∀{gs w sl t S V rk q},
   bx (cw0 P ty J Wg c (ClQ P ty Wg c Fin) (DnQ P ty Wg F) hC' hCr' hD' hcw Sst Rm zs w0 vs pm pw s r tm) gs w t S V rk q→Ends P Φ (crowd gs w sl) t:=by
 intro n
 induction n using Nat.strongRecOn with|ind n ih=>?_
 intro vs pm pw s r tm hn hp gs w sl t S V rk q h
 refine jO (fun hc=>cw0_live hJ hp hc) ?_ h
 intro gs w sl t S V rk q i g hcr hact hi hrun hl hQ
 by_cases hi0:i=0
 ·subst hi0
  have hm:=hQ.1 rfl
  have hpm:pm=false:=by
   cases pm with
   | false=>rfl
   | true=>have:=mp_run hCr' hm;rw[hrun] at this;simp at this
  subst hpm
  cases vs with
  | nil=>
   obtain⟨gs',w',V',rk',ops,b1,b2⟩:=main_closes (sl:=sl) (hF:=hF) (hFin:=hFin) hJ hcr hi hm.2
   refine⟨_,_,b1,.inl (e1_runs hJ (fun b hb=>(hSW b hb).1) ⟨hcw,.inl rfl,s,r,tm,if_pos rfl⟩ (fun b hb=>.inr (.inr (.inl hb))) (fun b hb=>?_) hSst hWg (fun b hb=>?_) HB _ _ _ .own 0 .rc 0 rfl rfl rfl rfl (.inl rfl) b2)⟩
   ·obtain⟨a1,a2⟩:=hS0 b hb
    exact⟨a1,(if_neg (hSW b a1).2).trans a2⟩
   ·obtain⟨a1,a2,a3,a4,a5⟩:=hRm b hb
    exact⟨.inr (.inr (.inr hb)),(if_neg a4).trans a1,fun x=>x.elim a2 a3,a5⟩
  | cons v vs=>
   cases pw with
   | false=>
    obtain⟨gs',V',rk',ops,b1,b2⟩:=main_parks (sl:=sl) hcr hi hm
    exact⟨_,_,b1,.inl (ih _ (by rw[←hn];simp) (v::vs) true false s r tm rfl (by simp) b2)⟩
   | true=>
    obtain⟨gs',w',V',rk',ops,b1,b2⟩:=main_meets (sl:=sl) hJ hcr hi hm
    exact⟨_,_,b1,.inl (ih _ (by rw[←hn];simp;omega) vs false false (s+1) (r+1) tm rfl (by simp) b2)⟩
 ·have hiJ:i=J:=hact.resolve_left hi0
  subst hiJ
  have hm:=hQ.2 hi0
  have hpw:pw=false:=by
   cases pw with
   | false=>rfl
   | true=>have:=rp_run hm;rw[hrun] at this;simp at this
  subst hpw
  cases hpm:pm with
  | false=>
   subst hpm
   obtain⟨gs',V',rk',ops,b1,b2⟩:=work_parks (sl:=sl) hJ hcr hi hm
   exact⟨_,_,b1,.inl (ih _ (by rw[←hn];simp) vs false true s r tm rfl (by simp) b2)⟩
  | true=>
   subst hpm
   cases vs with
   | nil=>
    have hh0:=hcr.here 0 (.inl rfl)
    have hy:gs[0]? = some gs[0]:=Array.getElem?_eq_getElem hh0
    have hl0:=hcr.still 0 (.inl ⟨rfl,rfl⟩)
    have hq:=hcr.walk 0 _ (.inl rfl) hy
    rw[hl0] at hq
    exact absurd (hq.1 rfl).1 (by decide)
   | cons v vs=>
    obtain⟨gs',w',V',rk',ops,b1,b2⟩:=work_meets (sl:=sl) hJ hcr hi hm
    exact⟨_,_,b1,.inl (ih _ (by rw[←hn];simp;omega) vs false false (s+1) (r+1) tm rfl (by simp) b2)⟩
end
open Go.ConcN (sumTo upd sumTo_upd upd_ne upd_same)
open Go.ConcR (KK wgBlock WgAt stA smA rd wr mk DC0)
inductive AK where|kd|add|sr|ke|bk|ow
deriving DecidableEq
def AK.dh:AK→Nat|kd=>9|add=>8|sr=>7|ke=>6|bk=>5|ow=>4
def AK.deaf:AK→Nat|add=>1|sr=>1|ke=>1|_=>0
def AK.val:AK→Int|kd=>0|add=>0|_=>KK
def poison:Obj:=.cells #[] 0 (0,0)
structure CutW (c Wg:Nat) (Rm:Nat→Prop) (W Wm:World):Prop where
 os:Wm.os=W.os
 tape:Wm.tape=W.tape
 output:Wm.output=W.output
 size:Wm.heap.size=W.heap.size
 same:∀b:Nat,b≠c→b≠Wg→¬Rm b→Wm.heap[b]? = W.heap[b]?
 lent:∀b:Nat,Rm b→Lent (W.heap[b]?) (Wm.heap[b]?)
 chan:Wm.heap[c]? = some poison
 group:Wm.heap[Wg]? = some poison
def GoQ(P:Program)(c:Nat)(Rm:Nat→Prop)(Cl D:Goroutine→World→Prop)(vs:List Value)(g:Goroutine)(W:World):Prop:=
 g.status=.running∧∃g1 child,(∀main w,stepG P main g w=.spawn g1 child w #[])∧(∀b,Rm b→∃o,W.heap[b]? = some o)∧(∀W0:World,(∀b:Nat,Rm b→W0.heap[b]? = W.heap[b]?)→Gs P (MP P c Cl vs false) g1 W0)∧Gs P (RP P c D vs false) child W
section
variable (P:Program)(ty:TypeId)(Wg:Nat)(Fa:Goroutine→Prop)(Qg:Goroutine→World→Prop)
def QA:AK→Nat→Goroutine→World→Prop
 | .kd,n,g,_=>Lqn P true ty Wg (AMk P true .disable (Lq P true ty Wg (AAdd P true ty Wg (Lq P true ty Wg (AMk P true (.read (smA Wg)) (Lq P true ty Wg (AMk P true .enable (Lq P true ty Wg Fa)))))))) n g
 | .add,n,g,_=>Lqn P true ty Wg (AAdd P true ty Wg (Lq P true ty Wg (AMk P true (.read (smA Wg)) (Lq P true ty Wg (AMk P true .enable (Lq P true ty Wg Fa)))))) n g
 | .sr,n,g,_=>Lqn P true ty Wg (AMk P true (.read (smA Wg)) (Lq P true ty Wg (AMk P true .enable (Lq P true ty Wg Fa)))) n g
 | .ke,n,g,_=>Lqn P true ty Wg (AMk P true .enable (Lq P true ty Wg Fa)) n g
 | .bk,n,g,_=>Lqn P true ty Wg Fa n g∧¬Fa g
 | .ow,_,g,W=>Qg g W
end
section
variable {P:Program}{ty:TypeId}{Wg n:Nat}{Fa:Goroutine→Prop}{Qg:Goroutine→World→Prop}{k:AK}{g:Goroutine}{W W1 w:World}
theorem qa_later(hQ:∀{g W W1},Qg g W→Rv W W1→Qg g W1)(h:QA P ty Wg Fa Qg k n g W)(r:Rv W W1):QA P ty Wg Fa Qg k n g W1:=by
 cases k<;>first|exact h|exact hQ h r
theorem qa_run(hFa:∀g,Fa g→g.status=.running)(hQ:∀g W,Qg g W→g.status=.running)(h:QA P ty Wg Fa Qg k n g W)(hw:WgLive ty Wg w):g.status=.running:=by
 cases k with
 | kd=>exact cA h hw fun g h=>h.1
 | add=>exact cA h hw fun g h=>h.1
 | sr=>exact cA h hw fun g h=>h.1
 | ke=>exact cA h hw fun g h=>h.1
 | bk=>exact cA h.1 hw hFa
 | ow=>exact hQ g W h
end
def zA(ty:TypeId)(Wg c:Nat)(zs:Nat→Option Obj)(s r:Nat)(tm:Bool)(k:AK)(b:Nat):Option Obj:=if b=Wg then some (wgBlock ty k.val 0) else if b=c then some (.chan 0 #[] false s r tm) else zs b
def ExA(Wg c n0:Nat)(Sst:Nat→Prop)(S:Nat→Nat→Prop)(n:Nat):Prop:=(∀b,S 0 b→b<n)∧(∀b,Sst b→S 0 b)∧S 0 c∧(∀b,S 0 b→Sst b∨b=c∨b=Wg)∧n0≤n∧Wg<n
def cwA(P:Program)(ty:TypeId)(Wg c:Nat)(Fa:Goroutine→Prop)(hFa:∀g,Fa g→g.status=.running)(Qg:Goroutine→World→Prop)(hQ:∀{g W W1},Qg g W→Rv W W1→Qg g W1)(hQr:∀g W,Qg g W→g.status=.running)
  (Sst Rm:Nat→Prop) (zs:Nat→Option Obj) (w0:World) (s r:Nat) (tm:Bool) (k:AK) (n:Nat):Cw P:=
 cwP P 0 Wg (Sjn Wg Sst) Rm (fun i=>i=0∧k≠.ow) (fun i g W=>i=0→QA P ty Wg Fa Qg k n g W∧(k≠.ow→∀g',Fa g'→Gs P Qg g' W)) (ZbO Wg c Sst Rm) (zA ty Wg c zs s r tm k) k.deaf k.deaf (fun _ _=>False) (ExA Wg c w0.heap.size Sst) w0
  (fun h r e=>⟨qa_later (fun x y=>hQ x y) (h e).1 r,fun e2 g' hg=>((h e).2 e2 g' hg).later (fun x y=>hQ x y) r⟩)
  (fun {i g p p' W w'} h hz e=>by
   have hw:=dp (ty:=ty) (Wg:=Wg) (by have:=hz Wg (.inr (.inl rfl));unfold zA at this;rwa [if_pos rfl] at this)
   rw[woken_run (qa_run hFa hQr (h e).1 hw)];exact h e)
  (fun _ _ _ h=>h.elim)
  (fun h0 _ _ _ _ _ _=>absurd rfl h0)
  (fun {S n n' i} hi _ hn h=>by
   have hi0:i=0:=by rcases hi with e|e<;>exact e
   subst hi0
   obtain⟨h1,h2,h3,h4,h6,h5⟩:=h
   exact⟨fun b hb=>Nat.lt_of_lt_of_le (h1 b (hb.resolve_right fun x=>x.1 rfl)) hn,fun b hb=>.inl (h2 b hb),.inl h3,fun b hb=>h4 b (hb.resolve_right fun x=>x.1 rfl),Nat.le_trans h6 hn,Nat.lt_of_lt_of_le h5 hn⟩)
section
variable {P:Program}{ty:TypeId}{Wg c:Nat}{Fa:Goroutine→Prop}{hFa:∀g,Fa g→g.status=.running}{Qg:Goroutine→World→Prop}{hQ:∀{g W W1},Qg g W→Rv W W1→Qg g W1}{hQr:∀g W,Qg g W→g.status=.running}
 {Sst Rm:Nat→Prop} {zs:Nat→Option Obj} {w0:World} {s r:Nat} {tm:Bool} {k k':AK} {n n':Nat}
 {gs:Array Goroutine} {w w' W:World} {t:Trace} {S:Nat→Nat→Prop} {V:Nat→World} {rk:Nat→Rk} {q:Nat→Nat} {g g':Goroutine} {es:Array Event} {sl:Option (Nat×Nat)} {Φ:Value→World→Prop}
theorem wgA(h:bx (cwA P ty Wg c Fa hFa Qg hQ hQr Sst Rm zs w0 s r tm k n) gs w t S V rk q):w.heap[Wg]? = some (wgBlock ty k.val 0):=by
 have:=(h.common Wg (.inr (.inl rfl))).2
 change _=zA ty Wg c zs s r tm k Wg at this
 unfold zA at this
 rwa [if_pos rfl] at this
theorem cwA_live(h:bx (cwA P ty Wg c Fa hFa Qg hQ hQr Sst Rm zs w0 s r tm k n) gs w t S V rk q):(∀g∈gs,awake g)∧∃(i:Nat) (g:Goroutine),gs[i]? = some g∧g.status=.running:=by
 have hw:=dp (wgA h)
 have h0:∀y,gs[0]? = some y→y.status=.running:=fun y hy=>by
  have hq:=h.walk 0 y (.inl rfl) hy
  cases hr:rk 0 with
  | mk f=>rw[hr] at hq;exact hq.1
  | leaf=>rw[hr] at hq;exact qa_run hFa hQr (hq rfl).1 hw
 refine⟨fun y hy=>?_,?_⟩
 ·obtain⟨j,hlt,rfl⟩:=Array.mem_iff_getElem.1 hy
  have hy':gs[j]? = some gs[j]:=Array.getElem?_eq_getElem hlt
  by_cases e:j=0
  ·subst e;exact awake_of (.inl (h0 _ hy'))
  ·exact awake_of ((h.old j _ (fun x=>by rcases x with x|x<;>exact e x) hy').status.imp id .inr)
 ·have hy:=Array.getElem?_eq_getElem (h.here 0 (.inl rfl))
  exact⟨0,_,hy,h0 _ hy⟩
theorem alone_go(h:bx (cwA P ty Wg c Fa hFa Qg hQ hQr Sst Rm zs w0 s r tm k n) gs w t S V rk q)(hi:gs[0]? = some g)(hs:stepG P true g w=.go g' w' es)(hw:Aside Wg w w'){rr:Rk}(hg:GsR P (fun g W=>QA P ty Wg Fa Qg k' n' g W∧(k'≠.ow→∀g',Fa g'→Gs P Qg g' W)) rr g' (V 0))(hrr:k'≠.ow→rr=.leaf)
  (hz:w'.heap[Wg]? = some (wgBlock ty k'.val 0)) (hiv:ivP 0 Wg (Sjn Wg Sst) Rm k'.deaf k'.deaf (fun _ _=>False) (ExA Wg c w0.heap.size Sst) S w.heap.size (t++MemOp.ofEvents 0 g.frame.fn g.frame.place es)) :
  ∃gs' V' rk',runT P (crowd gs w sl) 0=(.next (crowd gs' w' sl),MemOp.ofEvents 0 g.frame.fn g.frame.place es)∧bx (cwA P ty Wg c Fa hFa Qg hQ hQr Sst Rm zs w0 s r tm k' n') gs' w' (t++MemOp.ofEvents 0 g.frame.fn g.frame.place es) S V' rk' q:=by
 refine⟨_,_,_,runT_crowd_go hi hs,h.reGo (C':=cwA P ty Wg c Fa hFa Qg hQ hQr Sst Rm zs w0 s r tm k' n') rfl (fun j=>Iff.rfl) rfl (Ch:=fun b=>b=Wg) (fun b hb j hj=>hb▸h.trace.2.2.1 j hj) (js hw) (.inl rfl) hi (r:=rr) (dz (fun a b hab _=>hab) hg) (fun j y hj hne hy=>?_) (fun b hb=>?_) hiv fun j hj=>⟨fun hne=>absurd hj.1 hne,fun _=>hrr hj.2⟩⟩
 ·exact absurd (by rcases hj with x|x<;>exact x) hne
 ·refine⟨(h.common b hb).1,?_⟩
  show _=zA ty Wg c zs s r tm k' b
  unfold zA
  by_cases e:b=Wg
  ·rw[if_pos e,e];exact hz
  ·rw[if_neg e,hw.block b e]
   have:=(h.common b hb).2
   change _=zA ty Wg c zs s r tm k b at this
   unfold zA at this
   rwa [if_neg e] at this
end
end Go.Proofs.YtgigkennhdolpaaGreatDoor
