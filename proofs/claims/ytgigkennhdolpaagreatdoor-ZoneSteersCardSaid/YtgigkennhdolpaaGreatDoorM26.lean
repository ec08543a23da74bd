/- Company, 30: behind the channel's closing: the worker hears of it, walks to where it has done, and is in the library then. Company, 31: behind the channel's closing all runs to the join. Company, 32: the starter sends a list of values over a channel without a buffer, the worker receives them: stops, and the crew. Company, 33: the values are sent and received, the channel is closed, all runs to the join. -/
import Derived.Test.YtgigkennhdolpaaGreatDoorM25
import Derived.Conc.CrowdComm
namespace Go.Proofs.YtgigkennhdolpaaGreatDoor
open Go.Conc Go.ConcN
open Go.ConcN (sumTo upd sumTo_upd upd_ne upd_same)
open Go.ConcR (KK wgBlock WgAt stA smA rd wr mk DC0)
def RcAt(P:Program)(c:Nat)(z:Value)(fr:Frame)(cs:List Frame):Prop:=∀main w,stepG P main (G fr cs) w=.comm (G fr cs) #[rcase c z] true (.recv true) w #[]
def RcQ(P:Program)(c:Nat)(D:Goroutine→World→Prop)(g:Goroutine)(W:World):Prop:=
 ∃fr cs z,(g=G fr cs∨g = {parked (G fr cs) #[rcase c z] (.recv true) with status:=.running})∧RcAt P c z fr cs∧Gs P D (Go.Conc.served (G fr cs) (.tuple #[z,.bool false])) W
def DnQ(P:Program)(ty:TypeId)(Wg:Nat)(F:World→Prop)(g:Goroutine)(W:World):Prop:=DoneW P ty Wg g∧F W
def ni(P:Program)(ty:TypeId)(Wg c:Nat)(F:World→Prop)(hF:∀{W W1},F W→Rv W W1→F W1):Wq P ty Wg where
 R:=RcQ P c (DnQ P ty Wg F)
 D:=DnQ P ty Wg F
 laterR:=fun⟨fr,cs,z,h1,h2,h3⟩ r=>⟨fr,cs,z,h1,h2,h3.later (fun h r=>⟨h.1,hF h.2 r⟩) r⟩
 laterD:=fun h r=>⟨h.1,hF h.2 r⟩
 runR:=fun g W ⟨fr,cs,z,h1,_⟩=>by rcases h1 with rfl|rfl<;>rfl
 runD:=fun g W ⟨⟨n,h⟩,_⟩ w hw=>cA h hw fun g h=>h.1
theorem dz{P:Program}{Q Q':Goroutine→World→Prop}(hQ:∀g W,Q g W→Q' g W):∀{r:Rk} {g:Goroutine} {W:World},GsR P Q r g W→GsR P Q' r g W:=by
 intro r
 induction r with
 | leaf=>exact fun h=>hQ _ _ h
 | mk f ih=>exact fun h=>⟨h.1,fun W1 r=>by
   obtain⟨g',W',h1,h2⟩:=h.2 W1 r
   exact⟨g',W',h1,ih W1 h2⟩⟩
theorem qm_bl{P:Program}{ty:TypeId}{Wg n:Nat}{Fin:Goroutine→Prop}{bl bl':Prop}{m:MK}{g:Goroutine}(hb:bl→bl')(h:QM P ty Wg Fin bl m n g):QM P ty Wg Fin bl' m n g:=by
 cases m<;>first|exact h|exact h.imp id fun x=>⟨hb x.1,x.2⟩
theorem rc_step{P:Program}{c:Nat}{z:Value}{fr:Frame}{cs:List Frame}{g:Goroutine}(h:RcAt P c z fr cs)(hg:g=G fr cs∨g = {parked (G fr cs) #[rcase c z] (.recv true) with status:=.running})(main:Bool)(w:World) :
  stepG P main g w=.comm (G fr cs) #[rcase c z] true (.recv true) w #[]:=by
 rcases hg with rfl|rfl
 ·exact h main w
 ·rw[stepG_tries];exact h main w
section
variable {P:Program}{ty:TypeId}{J Wg c:Nat}{F:World→Prop}{hF:∀{W W1},F W→Rv W W1→F W1}{Sst Rm:Nat→Prop}{lent0:Nat→Option Obj}{Fin:Goroutine→Prop}{hFin:∀g,Fin g→g.status=.running}{Zf:Nat→Prop}{zf:Nat→Option Obj}{hZ:Zf Wg}{w0:World}{m m':MK}{mf mf':Nat}{k k':WK}{kf kf':Nat}
 {gs:Array Goroutine} {w w':World} {t:Trace} {S:Nat→Nat→Prop} {V:Nat→World} {rk:Nat→Rk} {q:Nat→Nat} {g g':Goroutine} {es:Array Event} {sl:Option (Nat×Nat)} {Φ:Value→World→Prop} {w00:World} {S0:Nat→Prop}
def Behind(P:Program)(Φ:Value→World→Prop)(w00:World)(S0:Nat→Prop)(Fin:Goroutine→Prop)(F:World→Prop)(w0:World)(Rm:Nat→Prop)(lent0:Nat→Option Obj)(c Wg:Nat):Prop:=
 ∀g,Fin g→∀(Wend W':World) (SJ:Nat→Prop),F Wend→(∀b:Nat,SJ b→Wend.heap[b]? = some (.cells #[] 0 (0,0)))→(∀(b:Nat) (o:Obj),¬SJ b→¬Rm b→Wend.heap[b]? = some o→W'.heap[b]? = some o)→(∀b:Nat,Rm b→W'.heap[b]? = lent0 b)→(∀b:Nat,SJ b→b<w0.heap.size→b=c∨b=Wg∨W'.heap[b]? = some (.cells #[] 0 (0,0)))→W'.heap[Wg]? = some (.cells #[] 0 (0,0))→Bas w0 W'→Er P Φ w00 S0 g W'
theorem no_send(h:bx (cw2 P ty J Wg c (ni P ty Wg c F hF) (Sjn Wg Sst) Sst Rm Fin hFin Zf zf hZ w0 m mf k kf) gs w t S V rk q)(i d:Nat):partners (gs.setIfInBounds i ph) d true=[]:=by
 refine partners_nil fun j y hy=>?_
 rcases getElem?_stand gs i j y hy with ⟨-,rfl⟩|⟨-,hy⟩
 ·rfl
 have hw:=dp (wg_of h)
 by_cases hj:j=0∨j=jOf J k
 ·have hq:=h.walk j y hj hy
  cases hr:rk j with
  | mk f=>rw[hr] at hq;exact offersAt_of_not_blocked (by rw[hq.1];decide) d true
  | leaf=>
   rw[hr] at hq
   by_cases h0:j=0
   ·subst h0
    rcases qm_run hFin (hq.1 rfl) hw with x|⟨_,_,g0,rfl,h0⟩
    ·exact offersAt_of_not_blocked (by rw[x];decide) d true
    ·unfold offersAt
     rw[show ({g0 with status:=.blocked} : Goroutine).offers=none from h0.2.1]
   ·have hj':j=jOf J k:=hj.resolve_left h0
    obtain⟨e,hk⟩:=nK (J:=J) (k:=k) (by rw[←hj'];exact h0)
    have:=qw_run (ni P ty Wg c F hF).runR (ni P ty Wg c F hF).runD (hq.2 h0) hk hw
    exact offersAt_of_not_blocked (by rw[this];decide) d true
 ·rcases (h.old j y hj hy).status with x|x<;>exact offersAt_of_not_blocked (by rw[x];decide) d true
set_option maxHeartbeats 4000000 in
theorem rc_go(hJ:J≠0)(hc:Zf c∧c≠Wg∧∃s r tm,zf c=some (.chan 0 #[] true s r tm))(h:bx (cw2 P ty J Wg c (ni P ty Wg c F hF) (Sjn Wg Sst) Sst Rm Fin hFin Zf zf hZ w0 m mf .rc kf) gs w t S V rk q)(hi:gs[J]? = some g)(hQ:RcQ P c (DnQ P ty Wg F) g (V J)) :
  ∃gs' V' rk' ops,runT P (crowd gs w sl) J=(.next (crowd gs' w sl),ops)∧bx (cw2 P ty J Wg c (ni P ty Wg c F hF) (Sjn Wg Sst) Sst Rm Fin hFin Zf zf hZ w0 m mf .dn kf) gs' w (t++ops) S V' rk' q:=by
 obtain⟨fr,cs,z,hg,hrc,hgs⟩:=hQ
 obtain⟨r,hr⟩:=hgs.dh
 obtain⟨hcz,hcw,s,rr,tm,hcc⟩:=hc
 have hchan:w.heap[c]? = some (.chan 0 #[] true s rr tm):=by
  have:=(h.common c hcz).2
  change _=zOf ty Wg zf m .rc c at this
  unfold zOf at this
  rw[if_neg hcw] at this
  exact this.trans hcc
 have hJ0:(J==0)=false:=by simpa using hJ
 have hrun:=crowd_recv_closed (P:=P) (sl:=sl) hi (by rw[hJ0];exact rc_step hrc hg false w) hchan (no_send h J c)
 have hlt:c<w.heap.size:=(Array.getElem?_eq_some_iff.1 hchan).1
 refine⟨_,_,_,_,hrun,h.reSet (C':=cw2 P ty J Wg c (ni P ty Wg c F hF) (Sjn Wg Sst) Sst Rm Fin hFin Zf zf hZ w0 m mf .dn kf) (w':=w) rfl (fun _=>Iff.rfl) rfl (Ch:=fun _=>False) (fun b hb=>hb.elim) (om.refl _ _) (i:=J) (.inr rfl) hi (r:=r) (dz (fun a b hab=>⟨fun e=>absurd e hJ,fun _=>hab⟩) hr) (fun j y hj hne hy=>?_) (fun b hb=>h.common b hb) (fun op hop=>?_) ?_ fun j hj=>?_⟩
 ·have hj0:j=0:=by
   rcases hj with x|x
   ·exact x
   ·exact absurd x hne
  subst hj0
  exact dz (fun a b hab=>⟨fun e=>qm_bl (fun _=>by decide) (hab.1 e),fun e=>absurd rfl e⟩) (h.walk 0 y hj hy)
 ·rw[ofEvents_none] at hop
  simp at hop
  rw[hop]
 ·have hI:ivP J Wg (Sjn Wg Sst) Rm m.deaf (nV J m .rc) (KJ2 J Wg m .rc) (ExK J Wg c w0.heap.size Zf Sst .rc) S w.heap.size t:=h.trace
  refine hI.still (fun op hop=>?_) fun i hi=>⟨fun e=>(by cases e),Knows.app _ hi.2⟩
  rw[ofEvents_none] at hop
  simp at hop
  rw[hop]
  exact⟨rfl,hlt,fun mm e=>by cases e⟩
 ·refine⟨fun hne=>?_,fun e=>?_⟩
  ·rcases hj with hj|⟨e,-⟩
   ·exact h.still j (.inl hj)
   ·exact absurd e hne
  ·rcases hj with ⟨e0,-⟩|⟨-,-,e0⟩
   ·exact absurd (e.symm.trans e0) hJ
   ·cases e0
end
open Go.ConcN (sumTo upd sumTo_upd upd_ne upd_same)
open Go.ConcR (KK wgBlock WgAt stA smA rd wr mk DC0)
section
variable {P:Program}{ty:TypeId}{J Wg c:Nat}{F:World→Prop}{hF:∀{W W1},F W→Rv W W1→F W1}{Sst Rm:Nat→Prop}{lent0:Nat→Option Obj}{Fin:Goroutine→Prop}{hFin:∀g,Fin g→g.status=.running}{Zf:Nat→Prop}{zf:Nat→Option Obj}{hZ:Zf Wg}{w0:World}{m m':MK}{mf mf':Nat}{k k':WK}{kf kf':Nat}
 {gs:Array Goroutine} {w w':World} {t:Trace} {S:Nat→Nat→Prop} {V:Nat→World} {rk:Nat→Rk} {q:Nat→Nat} {g g':Goroutine} {es:Array Event} {sl:Option (Nat×Nat)} {Φ:Value→World→Prop} {w00:World} {S0:Nat→Prop}
set_option maxHeartbeats 4000000 in
theorem retire(hJ:J≠0)(hok:cW m .dn)(hSW:∀b,Sst b→b≠Wg)(hc:c≠Wg∧Zf c∧∃s r tm,zf c=some (.chan 0 #[] true s r tm))(hzs:∀b,Sst b→Zf b)(hS0:∀b:Nat,S0 b→Sst b∧zf b=w00.heap[b]?)(hSst:∀b:Nat,Sst b→S0 b∨w00.heap.size≤b)(hWg:w00.heap.size≤Wg)(hRm:∀b,Rm b→Zf b∧zf b=lent0 b∧¬Sjn Wg Sst b∧∃cs tt fr,lent0 b=some (.cells cs tt fr))(HB:Behind P Φ w00 S0 Fin F w0 Rm lent0 c Wg)
  (h:bx (cw2 P ty J Wg c (ni P ty Wg c F hF) (Sjn Wg Sst) Sst Rm Fin hFin Zf zf hZ w0 m mf .dn kf) gs w t S V rk q) (hi:gs[J]? = some g) (hl:rk J=.leaf) (hQ:DnQ P ty Wg F g (V J)) :
  ∃m' ops,runT P (crowd gs w sl) J=(.next m',ops)∧Ends P Φ m' (t++ops):=by
 obtain⟨⟨n,hdone⟩,hFV⟩:=hQ
 have hI:ivP J Wg (Sjn Wg Sst) Rm m.deaf (nV J m .dn) (KJ2 J Wg m .dn) (Ex1 J Wg c w0.heap.size Sst) S w.heap.size t:=h.trace
 obtain⟨x1,x2,x3,x4,x6,x7,x5⟩:=hI.2.2.2
 have hwg:w.heap[Wg]? = some (wgBlock ty (stV m .dn) (smV m .dn)):=wg_of h
 have hv0:=h.view 0 (.inl rfl)
 have hvJ:=h.view J (.inr rfl)
 have hz1:∀b:Nat,Zf b→b≠Wg→w.heap[b]? = zf b:=fun b hb hne=>by
  have:=(h.common b hb).2
  change _=zOf ty Wg zf m .dn b at this
  unfold zOf at this
  rwa [if_neg hne] at this
 have hS0W:S 0 Wg:=hI.2.2.1 0 (.inl rfl)
 have hapart:∀b:Nat,b<w.heap.size→S 0 b∨S J b∨Rm b:=fun b hb=>h.apart 0 J (.inl rfl) (.inr rfl) (Ne.symm hJ) b hb
 -- the crew told anew
 let S':Nat→Nat→Prop:=fun j b=>if j=J then b<w.heap.size else S j b
 have hS'0:S' 0=S 0:=by funext b;exact if_neg (Ne.symm hJ)
 have hS'J:S' J=fun b=>b<w.heap.size:=by funext b;exact if_pos rfl
 have hvJ':View (S' J) Rm w (mask (S' J) Rm w):=iZ (fun b o hb ho=>by
  rw[hS'J] at hb
  exact absurd (Array.getElem?_eq_some_iff.1 ho).1 hb) (fun b hb=>by rw[hS'J] at hb;exact hb) fun b h1 hb=>by
  rw[hS'J] at h1
  exact absurd (by rw[hv0.size];exact hv0.low (.inr hb)) h1
 let V':Nat→World:=fun j=>if j=J then mask (S' J) Rm w else V j
 have hV'0:V' 0=V 0:=if_neg (Ne.symm hJ)
 have hV'J:V' J=mask (S' J) Rm w:=if_pos rfl
 have h':bx (cw2 P ty J Wg c (ni P ty Wg c F hF) (Sjn Wg Sst) Sst Rm Fin hFin (fun b=>S 0 b∨Rm b) (fun b=>w.heap[b]?) (.inl hS0W) w0 m mf .rel n) gs w t S' V' rk q:=by
  refine⟨fun j y hj hy=>?_,fun j hj=>?_,fun a b ha hb hne x hx=>?_,fun b hb=>?_,h.old,h.above,?_,fun j hj=>?_,h.here,h.base⟩
  ·by_cases e:j=J
   ·subst e
    rw[hi] at hy
    obtain rfl:=Oi hy
    rw[hl]
    exact⟨fun e=>absurd e hJ,fun _=>hdone⟩
   ·have hj0:j=0:=hj.resolve_right e
    subst hj0
    rw[hV'0]
    exact dz (fun a b hab=>⟨fun e=>qm_bl (fun _=>by decide) (hab.1 e),fun e=>absurd rfl e⟩) (h.walk 0 y hj hy)
  ·by_cases e:j=J
   ·subst e;rw[hV'J];exact hvJ'
   ·have hj0:j=0:=hj.resolve_right e
    subst hj0
    rw[hV'0,hS'0]
    exact hv0
  ·rcases ha with rfl|ha
   ·rcases hb with rfl|hb
    ·exact absurd rfl hne
    ·have hb:b=J:=hb
     rw[hb,hS'J];exact .inr (.inl hx)
   ·have ha:a=J:=ha
    rw[ha,hS'J];exact .inl hx
  ·refine⟨fun j hj=>?_,?_⟩
   ·rcases hb with hb|hb
    ·left
     by_cases e:j=J
     ·rw[e,hS'J];exact x1 0 b (.inl rfl) hb
     ·have hj0:j=0:=hj.resolve_right e
      rw[hj0,hS'0];exact hb
    ·exact .inr hb
   ·show _=zOf ty Wg (fun b=>w.heap[b]?) m .rel b
    unfold zOf
    by_cases e:b=Wg
    ·rw[if_pos e,e];exact hwg
    ·rw[if_neg e]
  ·refine⟨⟨hI.1.clean,fun j hj kk a hk b hb=>?_,hI.1.seen⟩,⟨hI.2.1.d0,hI.2.1.dJ,hI.2.1.norel,hI.2.1.wg,fun kk a h1 b h2=>(hI.2.1.all kk a h1 b h2).imp id (.imp (fun z=>⟨fun e=>(by cases e),z.2⟩) id)⟩,fun j hj=>?_,?_⟩
   ·by_cases e:j=J
    ·rcases hI.1.known J (.inr rfl) kk a hk b hb with y|⟨y,yw⟩|y
     ·rw[e,hS'J];exact .inl (x1 J b (.inr rfl) y)
     ·exact .inr (.inl ⟨y,yw⟩)
     ·rw[e];exact .inr (.inr y)
    ·have hj0:j=0:=hj.resolve_right e
     rw[hj0,hS'0]
     exact hI.1.known 0 (.inl rfl) kk a hk b hb
   ·by_cases e:j=J
    ·rw[e,hS'J];exact x5
    ·have hj0:j=0:=hj.resolve_right e
     rw[hj0,hS'0];exact hS0W
   ·show Ex2 Wg (fun b=>S 0 b∨Rm b) Sst S' w.heap.size
    refine⟨fun b hb=>by rw[hS'0] at hb;exact .inl hb,fun b hb=>by rw[hS'0];exact(x2 b hb).1,x5⟩
  ·rcases hj with ⟨e,e2⟩|⟨e,-,-⟩
   ·rw[e];exact h.still 0 (.inl ⟨rfl,e2⟩)
   ·rw[e];exact hl
 -- what lies behind the join
 have HE:∀{mf kf gs w' sl t S' V rk q g},bx (cw2 P ty J Wg c (ni P ty Wg c F hF) (Sjn Wg Sst) Sst Rm Fin hFin (fun b=>S 0 b∨Rm b) (fun b=>w.heap[b]?) (.inl hS0W) w0 .fin mf .gone kf) gs w' t S' V rk q→gs[0]? = some g→Fin g→Ends P Φ (crowd gs w' sl) t:=by
  intro mf' kf' gs' w' sl' t' S2 V2 rk2 q2 g2 hc2 hg2 hF2
  refine join_end (fun b hb=>?_) hSst hWg (fun b o hb hn ho=>?_) (fun g hg w'' W' hz hb hv=>?_) hc2 hg2 hF2
  ·obtain⟨a1,a2⟩:=hS0 b hb
   have hne:=hSW b a1
   exact⟨a1,by rw[←a2];exact hz1 b (hzs b a1) hne,hne⟩
  ·have hlent:Rm b→Obj.plain o:=fun hr=>by
    obtain⟨a1,a2,a3,cs,tt,fr,a4⟩:=hRm b hr
    have hne:b≠Wg:=fun e=>a3 (.inr e)
    have ho':w.heap[b]? = some o:=ho
    rw[hz1 b a1 hne,a2,a4] at ho'
    obtain rfl:=Oi ho'
    trivial
   by_cases hr:Rm b
   ·exact hlent hr
   have hb:S 0 b:=hb.resolve_right hr
   by_cases hsj:S J b
   ·rcases x4 b hb hsj with y|rfl|rfl
    ·exact absurd (.inl y) hn
    ·obtain⟨hcw,hcz,s,r,tm,hcc⟩:=hc
     have ho':w.heap[b]? = some o:=ho
     rw[hz1 b hcz hcw,hcc] at ho'
     obtain rfl:=Oi ho'
     trivial
    ·exact absurd (.inr rfl) hn
   ·exact hvJ.plain b o (by rw[←hvJ.same b hsj hr];exact ho)
  ·refine HB g hg (V J) W' (S J) hFV (fun b hb=>hvJ.pois b hb) (fun b o hb hnr ho=>?_) (fun b hr=>?_) (fun b hb hlt=>?_) (hv.pois Wg (.inr rfl)) ⟨hv.os.symm.trans hb.os,hv.tape.symm.trans hb.tape,hv.output.symm.trans hb.output⟩
   have hwb:w.heap[b]? = some o:=by rw[hvJ.same b hb hnr];exact ho
   have hlt:b<w.heap.size:=(Array.getElem?_eq_some_iff.1 hwb).1
   have hs0:S 0 b:=(hapart b hlt).resolve_right fun x=>x.elim hb hnr
   have hne:b≠Wg:=fun e=>hb (e▸hI.2.2.1 J (.inr rfl))
   have hnj:¬Sjn Wg Sst b:=fun x=>x.elim (fun y=>hb (x2 b y).2) hne
   rw[←hv.same b hnj (fun x=>x),hz b (.inl hs0) hne]
   exact hwb
   ·obtain⟨a1,a2,a3,-⟩:=hRm b hr
    have hne:b≠Wg:=fun e=>a3 (.inr e)
    rw[←hv.same b a3 (fun x=>x),hz b (.inr hr) hne,←a2]
    exact hz1 b a1 hne
   ·rcases x6 b hb hlt with y|y|y
    ·exact .inr (.inr (hv.pois b (.inl y)))
    ·exact .inl y
    ·exact .inr (.inl y)
 exact work_case (k:=.rel) hJ (.inr rfl) rfl hok (fun k' kf' _ hw' ho=>by
  intro gs w sl t S V rk q hc
  exact e2_runs hJ (.inr rfl) HE _ _ _ _ m mf k' kf' rfl rfl rfl rfl hw' ho hc) h' hi hdone
theorem e1_runs(hJ:J≠0)(hSW:∀b,Sst b→b≠Wg)(hc:c≠Wg∧Zf c∧∃s r tm,zf c=some (.chan 0 #[] true s r tm))(hzs:∀b,Sst b→Zf b)(hS0:∀b:Nat,S0 b→Sst b∧zf b=w00.heap[b]?)(hSst:∀b:Nat,Sst b→S0 b∨w00.heap.size≤b)(hWg:w00.heap.size≤Wg)(hRm:∀b,Rm b→Zf b∧zf b=lent0 b∧¬Sjn Wg Sst b∧∃cs tt fr,lent0 b=some (.cells cs tt fr))(HB:Behind P Φ w00 S0 Fin F w0 Rm lent0 c Wg) :
  ∀a b d:Nat,∀m mf k kf,m.dh=a→m.fuel mf=b→k.dh=d→k.walks=true→cW m k→∀{gs w sl t S V rk q},bx (cw2 P ty J Wg c (ni P ty Wg c F hF) (Sjn Wg Sst) Sst Rm Fin hFin Zf zf hZ w0 m mf k kf) gs w t S V rk q→Ends P Φ (crowd gs w sl) t:=by
 intro a
 induction a using Nat.strongRecOn with|ind a iha=>?_
 intro b
 induction b using Nat.strongRecOn with|ind b ihb=>?_
 intro d
 induction d using Nat.strongRecOn with|ind d ihd=>?_
 intro m mf k kf ea eb ed hkw hok gs w sl t S V rk q h
 have IHm:∀m' mf',(m'.dh<a∨(m'.dh=a∧m'.fuel mf'<b))→cW m' k→∀{gs w sl t S V rk q},bx (cw2 P ty J Wg c (ni P ty Wg c F hF) (Sjn Wg Sst) Sst Rm Fin hFin Zf zf hZ w0 m' mf' k kf) gs w t S V rk q→Ends P Φ (crowd gs w sl) t:=by
  intro m' mf' hl ho gs w sl t S V rk q hc
  rcases hl with hl|⟨e,hl⟩
  ·exact iha _ hl _ _ m' mf' k kf rfl rfl rfl hkw ho hc
  ·exact ihb _ hl _ m' mf' k kf e rfl rfl hkw ho hc
 have hk:k≠.gone:=fun e=>by rw[e] at hkw;cases hkw
 have hfin:m≠.fin:=fun e=>hk (gV hok (.inr (.inr (.inr (.inl e)))))
 refine jO (fun hc=>cw2_live hJ hc) ?_ h
 intro gs w sl t S V rk q i g hcr hact hi hrun hl hQ
 by_cases hi0:i=0
 ·subst hi0
  have hm:=hQ.1 rfl
  by_cases hown:m=.own
  ·subst hown
   obtain⟨n1,hm1⟩:=hm
   have hok':cW .kd k:=by cases k<;>simp_all [cW]
   exact kP hJ (.inr rfl) (m1:=.kd) (n1:=n1) (.inr ⟨rfl,rfl⟩) ⟨by decide,by decide⟩ hok' (fun m' mf' hr ho=>IHm m' mf' (.inl (by rw[←ea];rcases hr with x|⟨x,_⟩<;>simp only[MK.dh] at x ⊢<;>omega)) ho) hcr hi hrun hm1 hl
  ·exact kP hJ (.inr rfl) (.inl ⟨rfl,rfl⟩) ⟨hown,hfin⟩ hok (fun m' mf' hr ho=>IHm m' mf' (by rw[←ea,←eb];exact hr) ho) hcr hi hrun hm hl
 ·have hiJ:i=jOf J k:=hact.resolve_left hi0
  have hij:i=J:=hiJ.trans (jOf_J hk)
  subst hij
  have hq:=hQ.2 hi0
  cases k with
  | rc=>
   obtain⟨gs',V',rk',ops,b1,b2⟩:=rc_go (sl:=sl) hJ ⟨hc.2.1,hc.1,hc.2.2⟩ hcr hi hq
   exact⟨_,_,b1,.inl (ihd 8 (by rw[←ed];decide) m mf .dn kf ea eb rfl rfl hok b2)⟩
  | dn=>
   obtain⟨m',ops,b1,b2⟩:=retire (sl:=sl) hJ hok hSW hc hzs hS0 hSst hWg hRm HB hcr hi hl hq
   exact⟨m',ops,b1,.inl b2⟩
  | _=>cases hkw
end
open Go.ConcN (sumTo upd sumTo_upd upd_ne upd_same)
open Go.ConcR (KK wgBlock WgAt stA smA rd wr mk DC0)
def SdAt(P:Program)(c:Nat)(v z:Value)(fr:Frame)(cs:List Frame):Prop:=∀main w,stepG P main (G fr cs) w=.comm (G fr cs) #[scase c v z] true .send w #[]
def ClQ(P:Program)(ty:TypeId)(Wg c:Nat)(Fin:Goroutine→Prop)(g:Goroutine)(W:World):Prop:=
 g.status=.running∧mayWake P g=true∧∃g',g'.status=.running∧(∀w s r tm,w.heap[c]? = some (.chan 0 #[] false s r tm)→stepG P true g w=.go g' {w with heap:=w.heap.setIfInBounds c (.chan 0 #[] true s r tm)} #[⟨.obj c,false,true⟩,⟨.obj c,true,true⟩])∧Gs P (fun g _=>nh P true ty Wg Fin g) g' W
def MP(P:Program)(c:Nat)(Cl:Goroutine→World→Prop):List Value→Bool→Goroutine→World→Prop
 | [],p,g,W=>p=false∧Cl g W
 | v::vs,p,g,W=>∃fr cs z,g=(if p=true then parked (G fr cs) #[scase c v z] .send else G fr cs)∧SdAt P c v z fr cs∧Gs P (MP P c Cl vs false) (Go.Conc.served (G fr cs) undef) W
def RP(P:Program)(c:Nat)(D:Goroutine→World→Prop):List Value→Bool→Goroutine→World→Prop
 | [],p,g,W=>∃fr cs z,g=(if p=true then parked (G fr cs) #[rcase c z] (.recv true) else G fr cs)∧RcAt P c z fr cs∧Gs P D (Go.Conc.served (G fr cs) (.tuple #[z,.bool false])) W
 | v::vs,p,g,W=>∃fr cs z,g=(if p=true then parked (G fr cs) #[rcase c z] (.recv true) else G fr cs)∧RcAt P c z fr cs∧Gs P (RP P c D vs false) (Go.Conc.served (G fr cs) (.tuple #[v,.bool true])) W
section
variable {P:Program}{c:Nat}{Cl D:Goroutine→World→Prop}{vs:List Value}{p:Bool}{g a a':Goroutine}{W W1 w':World}{s r:Nat}{tm:Bool}
theorem iY(hC:∀{g W W1},Cl g W→Rv W W1→Cl g W1):∀{vs:List Value} {p:Bool} {g:Goroutine} {W W1:World},MP P c Cl vs p g W→Rv W W1→MP P c Cl vs p g W1
 | [],_,_,_,_,h,k=>⟨h.1,hC h.2 k⟩
 | _::_,_,_,_,_,⟨fr,cs,z,h1,h2,h3⟩,k=>⟨fr,cs,z,h1,h2,h3.later (fun x y=>iY hC x y) k⟩
theorem gg(hD:∀{g W W1},D g W→Rv W W1→D g W1):∀{vs:List Value} {p:Bool} {g:Goroutine} {W W1:World},RP P c D vs p g W→Rv W W1→RP P c D vs p g W1
 | [],_,_,_,_,⟨fr,cs,z,h1,h2,h3⟩,k=>⟨fr,cs,z,h1,h2,h3.later hD k⟩
 | _::_,_,_,_,_,⟨fr,cs,z,h1,h2,h3⟩,k=>⟨fr,cs,z,h1,h2,h3.later (fun x y=>gg hD x y) k⟩
theorem mp_run(hC:∀g W,Cl g W→g.status=.running)(h:MP P c Cl vs p g W):g.status=if p=true then .blocked else .running:=by
 cases vs with
 | nil=>obtain⟨rfl,h⟩:=h;exact hC g W h
 | cons v vs=>obtain⟨fr,cs,z,rfl,-⟩:=h;cases p<;>rfl
theorem rp_form(h:RP P c D vs p g W):∃fr cs z,g=(if p=true then parked (G fr cs) #[rcase c z] (.recv true) else G fr cs)∧RcAt P c z fr cs:=by
 cases vs with
 | nil=>obtain⟨fr,cs,z,h1,h2,-⟩:=h;exact⟨fr,cs,z,h1,h2⟩
 | cons v vs=>obtain⟨fr,cs,z,h1,h2,-⟩:=h;exact⟨fr,cs,z,h1,h2⟩
theorem rp_run(h:RP P c D vs p g W):g.status=if p=true then .blocked else .running:=by
 obtain⟨fr,cs,z,rfl,-⟩:=rp_form h
 cases p<;>rfl
theorem mp_woke(hC:∀g W,Cl g W→g.status=.running)(h:MP P c Cl vs p g W)(hc:w'.heap[c]? = some (.chan 0 #[] false s r tm)):woken P a a' w' g=g:=by
 cases p with
 | false=>exact woken_run (mp_run hC h)
 | true=>
  cases vs with
  | nil=>cases h.1
  | cons v vs=>obtain⟨fr,cs,z,rfl,-⟩:=h;exact woken_send_open _ _ hc
theorem rp_woke(h:RP P c D vs p g W)(hc:w'.heap[c]? = some (.chan 0 #[] false s r tm)):woken P a a' w' g=g:=by
 cases p with
 | false=>exact woken_run (rp_run h)
 | true=>obtain⟨fr,cs,z,rfl,-⟩:=rp_form h;exact woken_recv_open _ _ hc
theorem mp_offers(hC:∀g W,Cl g W→g.status=.running)(h:MP P c Cl vs p g W)(d:Nat):offersAt g d false=[]:=by
 cases p with
 | false=>exact offersAt_of_not_blocked (by rw[mp_run hC h];decide) d _
 | true=>
  cases vs with
  | nil=>cases h.1
  | cons v vs=>obtain⟨fr,cs,z,rfl,-⟩:=h;exact offersAt_parked_send' _ _ _ _ _ d
theorem rp_offers(h:RP P c D vs p g W)(d:Nat):offersAt g d true=[]:=by
 cases p with
 | false=>exact offersAt_of_not_blocked (by rw[rp_run h];decide) d _
 | true=>obtain⟨fr,cs,z,rfl,-⟩:=rp_form h;exact offersAt_parked_recv' _ _ _ _ d
end
def zOp(ty:TypeId)(Wg c:Nat)(zs:Nat→Option Obj)(s r:Nat)(tm:Bool)(b:Nat):Option Obj:=if b=Wg then some (wgBlock ty KK 0) else if b=c then some (.chan 0 #[] false s r tm) else zs b
def ZbO(Wg c:Nat)(Sst Rm:Nat→Prop)(b:Nat):Prop:=b=c∨b=Wg∨Sst b∨Rm b
def KJc(J c:Nat)(t:Trace)(k:Nat):Prop:=Knows t J k∧k<t.size∧∀x:Touch,touchAt t k=some x→∀b,ji x.loc=some b→b≠c
theorem kjc_app{J c:Nat}{t:Trace}{k:Nat}(u:Trace)(h:KJc J c t k):KJc J c (t++u) k:=⟨h.1.app u,by rw[Array.size_append];have:=h.2.1;omega,fun x hx b hb=>by
 obtain⟨y,hy,hya⟩:=touch_of hx
 rcases getElem?_append_cases hy with ⟨hlt,hy'⟩|⟨hge,_⟩
 ·exact h.2.2 x (by rw[touchAt_of hy'];exact hya) b hb
 ·have:=h.2.1
  omega⟩
def cw0(P:Program)(ty:TypeId)(J Wg c:Nat)(Cl D:Goroutine→World→Prop)(hC:∀{g W W1},Cl g W→Rv W W1→Cl g W1)(hCr:∀g W,Cl g W→g.status=.running)(hD:∀{g W W1},D g W→Rv W W1→D g W1)(hcw:c≠Wg)
  (Sst Rm:Nat→Prop) (zs:Nat→Option Obj) (w0:World) (vs:List Value) (pm pw:Bool) (s r:Nat) (tm:Bool):Cw P:=
 cwP P J Wg (Sjn Wg Sst) Rm (fun i=>(i=0∧pm=true)∨(i=J∧i≠0∧pw=true)) (fun i g W=>(i=0→MP P c Cl vs pm g W)∧(i≠0→RP P c D vs pw g W)) (ZbO Wg c Sst Rm) (zOp ty Wg c zs s r tm) 0 0 (KJc J c) (Ex1 J Wg c w0.heap.size Sst) w0
  (fun h k=>⟨fun e=>iY (Cl:=Cl) (fun x y=>hC x y) (h.1 e) k,fun e=>gg (D:=D) (fun x y=>hD x y) (h.2 e) k⟩)
  (fun {i g p p' W w'} h hz=>by
   have hc:=hz c (.inl rfl)
   unfold zOp at hc
   rw[if_neg hcw,if_pos rfl] at hc
   by_cases e:i=0
   ·have h1:=h.1 e
    refine⟨fun _=>?_,fun x=>absurd e x⟩
    rw[mp_woke hCr h1 hc];exact h1
   ·have h1:=h.2 e
    refine⟨fun x=>absurd x e,fun _=>?_⟩
    rw[rp_woke h1 hc];exact h1)
  (fun t u k h=>kjc_app u h)
  (fun _ _ S n hE t p y hy hg hs=>⟨by have:=knows_own hy;rwa [hg] at this,lt_size_of_getElem? hy,fun x hx b hb e=>hs x b (by rw[←touchAt_of hy];exact hx) hb (e▸hE.2.2.1.2)⟩)
  (fun {S n n' i} hi _ hn h=>exK_own (J:=J) (Wg:=Wg) (c:=c) (n0:=w0.heap.size) (Zf:=fun _=>False) (Sst:=Sst) (k:=.rc) (m:=.own) (S:=S) (n:=n) (n':=n') (i:=i) hi (by rintro(⟨-,x⟩|⟨-,-,x⟩);exact x rfl;cases x) hn h)
open Go.ConcN (sumTo upd sumTo_upd upd_ne upd_same)
open Go.ConcR (KK wgBlock WgAt stA smA rd wr mk DC0)
section
variable {P:Program}{ty:TypeId}{J Wg c:Nat}{F:World→Prop}{hF:∀{W W1},F W→Rv W W1→F W1}{Sst Rm:Nat→Prop}{Fin:Goroutine→Prop}{hFin:∀g,Fin g→g.status=.running}{zs:Nat→Option Obj}{w0:World}{vs:List Value}{v:Value}{pm pw:Bool}{s r:Nat}{tm:Bool}
 {Cl D:Goroutine→World→Prop} {hC:∀{g W W1},Cl g W→Rv W W1→Cl g W1} {hCr:∀g W,Cl g W→g.status=.running} {hD:∀{g W W1},D g W→Rv W W1→D g W1} {hcw:c≠Wg}
 {gs:Array Goroutine} {w w':World} {t:Trace} {S:Nat→Nat→Prop} {V:Nat→World} {rk:Nat→Rk} {q:Nat→Nat} {g g':Goroutine} {es:Array Event} {sl:Option (Nat×Nat)} {Φ:Value→World→Prop} {w00:World} {S0:Nat→Prop}
theorem lj(h:bx (cw0 P ty J Wg c Cl D hC hCr hD hcw Sst Rm zs w0 vs pm pw s r tm) gs w t S V rk q):w.heap[c]? = some (.chan 0 #[] false s r tm):=by
 have:=(h.common c (.inl rfl)).2
 change _=zOp ty Wg c zs s r tm c at this
 unfold zOp at this
 rwa [if_neg hcw,if_pos rfl] at this
theorem st0(h:bx (cw0 P ty J Wg c Cl D hC hCr hD hcw Sst Rm zs w0 vs pm pw s r tm) gs w t S V rk q)(j:Nat)(y:Goroutine)(hy:gs[j]? = some y) :
  (j=0∧(y.status=if pm=true then .blocked else .running)∧offersAt y c false=[]∧(pm=false→offersAt y c true=[]))∨(j≠0∧j=J∧(y.status=if pw=true then .blocked else .running)∧offersAt y c true=[]∧(pw=false→offersAt y c false=[]))∨((¬(j=0∨j=J))∧(y.status=.running∨y.status=.finished)∧∀d b,offersAt y d b=[]):=by
 by_cases ha:j=0∨j=J
 ·have hq:=h.walk j y ha hy
  cases hr:rk j with
  | mk f=>
   rw[hr] at hq
   have ho:∀b,offersAt y c b=[]:=fun b=>offersAt_of_not_blocked (by rw[hq.1];decide) c b
   by_cases h0:j=0
   ·refine .inl ⟨h0,?_,ho _,fun _=>ho _⟩
    cases pm with
    | false=>exact hq.1
    | true=>have:=h.still j (.inl ⟨h0,rfl⟩);rw[hr] at this;cases this
   ·refine .inr (.inl ⟨h0,ha.resolve_left h0,?_,ho _,fun _=>ho _⟩)
    cases pw with
    | false=>exact hq.1
    | true=>have:=h.still j (.inr ⟨ha.resolve_left h0,h0,rfl⟩);rw[hr] at this;cases this
  | leaf=>
   rw[hr] at hq
   by_cases h0:j=0
   ·have h1:=hq.1 h0
    refine .inl ⟨h0,mp_run hCr h1,mp_offers hCr h1 c,fun hp=>?_⟩
    subst hp
    exact offersAt_of_not_blocked (by rw[mp_run hCr h1];decide) c _
   ·have h1:=hq.2 h0
    refine .inr (.inl ⟨h0,ha.resolve_left h0,rp_run h1,rp_offers h1 c,fun hp=>?_⟩)
    subst hp
    exact offersAt_of_not_blocked (by rw[rp_run h1];decide) c _
 ·have hst:=(h.old j y ha hy).status
  refine .inr (.inr ⟨ha,hst,fun d b=>?_⟩)
  rcases hst with x|x<;>exact offersAt_of_not_blocked (by rw[x];decide) d b
theorem cw0_live(hJ:J≠0)(hp:¬(pm=true∧pw=true))(h:bx (cw0 P ty J Wg c Cl D hC hCr hD hcw Sst Rm zs w0 vs pm pw s r tm) gs w t S V rk q):(∀g∈gs,awake g)∧∃(i:Nat) (g:Goroutine),gs[i]? = some g∧g.status=.running:=by
 refine⟨fun y hy=>?_,?_⟩
 ·obtain⟨j,hlt,rfl⟩:=Array.mem_iff_getElem.1 hy
  rcases st0 h j _ (Array.getElem?_eq_getElem hlt) with ⟨_,x,_⟩|⟨_,_,x,_⟩|⟨_,x,_⟩
  ·refine awake_of ?_
   rw[x]
   cases pm<;>simp
  ·refine awake_of ?_
   rw[x]
   cases pw<;>simp
  ·exact awake_of (x.imp id .inr)
 ·cases hpm:pm with
  | false=>
   have hlt:=h.here 0 (.inl rfl)
   have hy:gs[0]? = some gs[0]:=Array.getElem?_eq_getElem hlt
   rcases st0 h 0 _ hy with ⟨_,x,_⟩|⟨x,_⟩|⟨x,_⟩
   ·rw[hpm] at x;exact⟨0,_,hy,x⟩
   ·exact absurd rfl x
   ·exact absurd (.inl rfl) x
  | true=>
   have hlt:=h.here J (.inr rfl)
   have hy:gs[J]? = some gs[J]:=Array.getElem?_eq_getElem hlt
   rcases st0 h J _ hy with ⟨x,_⟩|⟨_,_,x,_⟩|⟨x,_⟩
   ·exact absurd x hJ
   ·have hpw:pw=false:=by cases pw with
     | false=>rfl
     | true=>exact absurd ⟨hpm,rfl⟩ hp
    rw[hpw] at x;exact⟨J,_,hy,x⟩
   ·exact absurd (.inr rfl) x
theorem iv_of(h:bx (cw0 P ty J Wg c Cl D hC hCr hD hcw Sst Rm zs w0 vs pm pw s r tm) gs w t S V rk q):ivP J Wg (Sjn Wg Sst) Rm 0 0 (KJc J c) (Ex1 J Wg c w0.heap.size Sst) S w.heap.size t:=h.trace
theorem iv_comm(h:ivP J Wg (Sjn Wg Sst) Rm 0 0 (KJc J c) (Ex1 J Wg c w0.heap.size Sst) S w.heap.size t){u:Trace}(hu:∀op∈u,op.act.touch? = none∧op.act.low w.heap.size∧∀m,op.act≠.mark m):ivP J Wg (Sjn Wg Sst) Rm 0 0 (KJc J c) (Ex1 J Wg c w0.heap.size Sst) S w.heap.size (t++u):=
 h.still hu fun k hk=>kjc_app u hk
theorem main_parks(h:bx (cw0 P ty J Wg c Cl D hC hCr hD hcw Sst Rm zs w0 (v::vs) false false s r tm) gs w t S V rk q)(hi:gs[0]? = some g)(hm:MP P c Cl (v::vs) false g (V 0)) :
  ∃gs' V' rk' ops,runT P (crowd gs w sl) 0=(.next (crowd gs' w sl),ops)∧bx (cw0 P ty J Wg c Cl D hC hCr hD hcw Sst Rm zs w0 (v::vs) true false s r tm) gs' w (t++ops) S V' rk' q:=by
 obtain⟨fr,cs,z,hg,hs,hgs⟩:=hm
 rw[if_neg (by decide)] at hg
 subst hg
 have hc:=lj h
 have hrun:=crowd_waits (P:=P) (sl:=sl) hi (hs true w) (fun cc hcc=>by
  simp at hcc
  subst hcc
  exact ways_send_none hc (Nat.zero_le _) (partners_nil fun j y hy=>by
   rcases getElem?_stand gs 0 j y hy with ⟨-,rfl⟩|⟨hne,hy⟩
   ·rfl
   ·rcases st0 h j y hy with ⟨x,_⟩|⟨_,_,_,_,x⟩|⟨_,_,x⟩
    ·exact absurd x hne
    ·exact x rfl
    ·exact x _ _))
 refine⟨_,_,_,_,hrun,h.reSet (C':=cw0 P ty J Wg c Cl D hC hCr hD hcw Sst Rm zs w0 (v::vs) true false s r tm) (w':=w) rfl (fun _=>Iff.rfl) rfl (Ch:=fun _=>False) (fun b hb=>hb.elim) (om.refl _ _) (i:=0) (.inl rfl) hi (r:=.leaf) ⟨fun _=>⟨fr,cs,z,rfl,hs,hgs⟩,fun e=>absurd rfl e⟩ (fun j y hj hne hy=>?_) (fun b hb=>h.common b hb) (fun op hop=>by rw[ofEvents_none] at hop;simp at hop) ?_ fun j hj=>⟨fun hne=>?_,fun _=>rfl⟩⟩
 ·exact dz (fun a b hab=>⟨fun e=>absurd e hne,fun e=>hab.2 e⟩) (h.walk j y hj hy)
 ·exact iv_comm (iv_of h) fun op hop=>by rw[ofEvents_none] at hop;simp at hop
 ·rcases hj with ⟨e,-⟩|⟨-,-,e⟩
  ·exact absurd e hne
  ·cases e
theorem work_parks(hJ:J≠0)(h:bx (cw0 P ty J Wg c Cl D hC hCr hD hcw Sst Rm zs w0 vs false false s r tm) gs w t S V rk q)(hi:gs[J]? = some g)(hm:RP P c D vs false g (V J)) :
  ∃gs' V' rk' ops,runT P (crowd gs w sl) J=(.next (crowd gs' w sl),ops)∧bx (cw0 P ty J Wg c Cl D hC hCr hD hcw Sst Rm zs w0 vs false true s r tm) gs' w (t++ops) S V' rk' q:=by
 obtain⟨fr,cs,z,hg,hs⟩:=rp_form hm
 rw[if_neg (by decide)] at hg
 have hm':∀W,RP P c D vs false g W→RP P c D vs true (parked (G fr cs) #[rcase c z] (.recv true)) W:=fun W hW=>by
  subst hg
  cases vs with
  | nil=>
   obtain⟨fr',cs',z',h1,h2,h3⟩:=hW
   rw[if_neg (by decide)] at h1
   have e1:fr'=fr∧cs'=cs:=by
    have:=congrArg Goroutine.frame h1
    have h4:=congrArg Goroutine.callers h1
    exact⟨this.symm,h4.symm⟩
   obtain⟨rfl,rfl⟩:=e1
   have e2:=(h2 true w).symm.trans (hs true w)
   have ez:z'=z:=by
    injection e2 with _ e3
    have:=congrArg (fun a:Array CommCase=>(a[0]?).map (·.zero)) e3
    simpa[rcase] using this
   subst ez
   exact⟨fr',cs',z',by rw[if_pos rfl],h2,h3⟩
  | cons a l=>
   obtain⟨fr',cs',z',h1,h2,h3⟩:=hW
   rw[if_neg (by decide)] at h1
   have e1:fr'=fr∧cs'=cs:=by
    have:=congrArg Goroutine.frame h1
    have h4:=congrArg Goroutine.callers h1
    exact⟨this.symm,h4.symm⟩
   obtain⟨rfl,rfl⟩:=e1
   have e2:=(h2 true w).symm.trans (hs true w)
   have ez:z'=z:=by
    injection e2 with _ e3
    have:=congrArg (fun a:Array CommCase=>(a[0]?).map (·.zero)) e3
    simpa[rcase] using this
   subst ez
   exact⟨fr',cs',z',by rw[if_pos rfl],h2,h3⟩
 have hJ0:(J==0)=false:=by simpa using hJ
 have hc:=lj h
 have hrun:=crowd_waits (P:=P) (sl:=sl) hi (by rw[hJ0,hg];exact hs false w) (fun cc hcc=>by
  simp at hcc
  subst hcc
  exact ways_recv_none hc (partners_nil fun j y hy=>by
   rcases getElem?_stand gs J j y hy with ⟨-,rfl⟩|⟨hne,hy⟩
   ·rfl
   ·rcases st0 h j y hy with ⟨_,_,_,x⟩|⟨_,x,_⟩|⟨_,_,x⟩
    ·exact x rfl
    ·exact absurd x hne
    ·exact x _ _))
 refine⟨_,_,_,_,hrun,h.reSet (C':=cw0 P ty J Wg c Cl D hC hCr hD hcw Sst Rm zs w0 vs false true s r tm) (w':=w) rfl (fun _=>Iff.rfl) rfl (Ch:=fun _=>False) (fun b hb=>hb.elim) (om.refl _ _) (i:=J) (.inr rfl) hi (r:=.leaf) ⟨fun e=>absurd e hJ,fun _=>hm' _ hm⟩ (fun j y hj hne hy=>?_) (fun b hb=>h.common b hb) (fun op hop=>by rw[ofEvents_none] at hop;simp at hop) ?_ fun j hj=>⟨fun hne=>?_,fun _=>rfl⟩⟩
 ·have h0:j=0:=hj.resolve_right hne
  exact dz (fun a b hab=>⟨fun e=>hab.1 e,fun e=>absurd h0 e⟩) (h.walk j y hj hy)
 ·exact iv_comm (iv_of h) fun op hop=>by rw[ofEvents_none] at hop;simp at hop
 ·rcases hj with ⟨-,e⟩|⟨e,-,-⟩
  ·cases e
  ·exact absurd e hne
end
end Go.Proofs.YtgigkennhdolpaaGreatDoor
