/- Company, 33: the values are sent and. -/
import Derived.Test.YtmdpdknpapjchaaGreatDoorM4
set_option linter.all false
namespace Go.Proofs.YtmdpdknpapjchaaGreatDoor
open Go.Conc Go.ConcN
open Go.ConcN (sumTo upd sumTo_upd upd_ne upd_same)
open Go.ConcR (KK wgBlock WgAt stA smA rd wr mk DC0)
variable {es:Array Event}{pm pw tm:Bool}{g g':Goroutine}{J Wg c n r s:Nat}{q:Nat->Nat}{Rm Sst:Nat->Prop}{rk:Nat->Rk}{P:Program}{t:Trace}{ty:TypeId}{w w' w0 w00:World}{hcw:c≠Wg}
section
variable {F:World->Prop}{hF:∀{W W1},F W->Rv W W1->F W1}{Fin:Goroutine->Prop}{hFin:∀g,Fin g->g.status=.running}{zs:Nat->Option Obj}{vs:List Value}{v:Value}{Cl D:Goroutine->World->Prop}{hC:∀{g W W1},Cl g W->Rv W W1->Cl g W1}{hCr:∀g W,Cl g W->g.status=.running}{hD:∀{g W W1},D g W->Rv W W1->D g W1}{gs:Array Goroutine}{S:Nat->Nat->Prop}{V:Nat->World}{sl:Option (Nat×Nat)}{Φ:Value->World->Prop}{S0:Nat->Prop}
theorem nx(h:bC (cw0 P ty J Wg c Cl D hC hCr hD hcw Sst Rm zs w0 vs pm pw s r tm) gs w t S V rk q):w.heap[c]? = some (.chan 0 #[] false s r tm):=by
 have:=(h.common c (.inl rfl)).2;change _=zOp ty Wg c zs s r tm c at this;unfold zOp at this
 rwa [Xk hcw,Xl rfl] at this
theorem st0(h:bC (cw0 P ty J Wg c Cl D hC hCr hD hcw Sst Rm zs w0 vs pm pw s r tm) gs w t S V rk q)(j:Nat)(y:Goroutine)(hy:gs[j]? = some y) :
  (j=0∧(y.status=if pm=true then .blocked else .running)∧offersAt y c false=[]∧(pm=false->offersAt y c true=[]))∨(j≠0∧j=J∧(y.status=if pw=true then .blocked else .running)∧offersAt y c true=[]∧(pw=false->offersAt y c false=[]))∨((¬(j=0∨j=J))∧(y.status=.running∨y.status=.finished)∧∀d b,offersAt y d b=[]):=by
 by_cases ha:j=0∨j=J
 ·have hq:=h.walk j y ha hy;cases hr:rk j with
  | mk f=>
   rw[hr] at hq;have ho:∀b,offersAt y c b=[]:=λb=>offersAt_of_not_blocked (by rw[hq.1];decide) c b;by_cases h0:j=0
   ·refine .inl ⟨h0,?_,ho _,λ_=>ho _⟩;cases pm with
    | false=>exact hq.1
    | true=>have:=h.still j (.inl ⟨h0,rfl⟩);rw[hr] at this;cases this
   refine .inr (.inl ⟨h0,ha.resolve_left h0,?_,ho _,λ_=>ho _⟩);cases pw with
   | false=>exact hq.1
   | true=>have:=h.still j (.inr ⟨ha.resolve_left h0,h0,rfl⟩);rw[hr] at this;cases this
  | leaf=>
   rw[hr] at hq;by_cases h0:j=0;have h1:=hq.1 h0;refine .inl ⟨h0,tX hCr h1,G7 hCr h1 c,λhp=>?_⟩;subst hp;exact offersAt_of_not_blocked (by rw[tX hCr h1];decide) c _;have h1:=hq.2 h0;refine .inr (.inl ⟨h0,ha.resolve_left h0,tu h1,GR h1 c,λhp=>?_⟩);subst hp;exact offersAt_of_not_blocked (by rw[tu h1];decide) c _
 have Ya:=(h.old j y ha hy).status;refine .inr (.inr ⟨ha,Ya,λd b=>?_⟩);rcases Ya with x|x<;>exact offersAt_of_not_blocked (by rw[x];decide) d b
theorem LR(hJ:J≠0)(hp:¬(pm=true∧pw=true))(h:bC (cw0 P ty J Wg c Cl D hC hCr hD hcw Sst Rm zs w0 vs pm pw s r tm) gs w t S V rk q):(∀g∈gs,awake g)∧∃(i:Nat) (g:Goroutine),gs[i]? = some g∧g.status=.running:=by
 refine⟨λy hy=>?_,?_⟩
 ·obtain⟨j,X0,rfl⟩:=Array.mem_iff_getElem.1 hy;rcases st0 h j _ (F' X0) with ⟨_,x,_⟩|⟨_,_,x,_⟩|⟨_,x,_⟩
  refine awake_of ?_;rw[x];cases pm<;>simp;refine awake_of ?_;rw[x];cases pw<;>simp;exact awake_of (x.imp id .inr)
 cases hpm:pm with
 | false=>
  have X0:=h.here 0 (.inl rfl);have hy:gs[0]? = some gs[0]:=F' X0;rcases st0 h 0 _ hy with ⟨_,x,_⟩|⟨x,_⟩|⟨x,_⟩
  rw[hpm] at x;exact⟨0,_,hy,x⟩;exact P' rfl x;exact P' (.inl rfl) x
 | true=>
  have X0:=h.here J (.inr rfl);have hy:gs[J]? = some gs[J]:=F' X0;rcases st0 h J _ hy with ⟨x,_⟩|⟨_,_,x,_⟩|⟨x,_⟩
  exact P' x hJ
  ·have hpw:pw=false:=by cases pw with
    | false=>rfl
    | true=>exact P' ⟨hpm,rfl⟩ hp
   rw[hpw] at x;exact⟨J,_,hy,x⟩
  exact P' (.inr rfl) x
theorem E4(h:bC (cw0 P ty J Wg c Cl D hC hCr hD hcw Sst Rm zs w0 vs pm pw s r tm) gs w t S V rk q):ivP J Wg (YM Wg Sst) Rm 0 0 (KJc J c) (Ex1 J Wg c w0.heap.size Sst) S w.heap.size t:=h.trace
theorem yk(h:ivP J Wg (YM Wg Sst) Rm 0 0 (KJc J c) (Ex1 J Wg c w0.heap.size Sst) S w.heap.size t){u:Trace}(hu:∀op∈u,op.act.touch? = none∧op.act.low w.heap.size∧∀m,op.act≠.mark m):ivP J Wg (YM Wg Sst) Rm 0 0 (KJc J c) (Ex1 J Wg c w0.heap.size Sst) S w.heap.size (t++u):=
 h.still hu λk hk=>E1 u hk
theorem CS(h:bC (cw0 P ty J Wg c Cl D hC hCr hD hcw Sst Rm zs w0 (v::vs) false false s r tm) gs w t S V rk q)(hi:gs[0]? = some g)(hm:MP P c Cl (v::vs) false g (V 0)) :
  ∃Yn V' rk' ops,runT P (crowd gs w sl) 0=(.next (crowd Yn w sl),ops)∧bC (cw0 P ty J Wg c Cl D hC hCr hD hcw Sst Rm zs w0 (v::vs) true false s r tm) Yn w (t++ops) S V' rk' q:=by
 obtain⟨fr,cs,z,hg,hs,hgs⟩:=hm;rw[Xk (by decide)] at hg;subst hg;have hc:=nx h;have XV:=crowd_waits (P:=P) (sl:=sl) hi (hs true w) (λcc hcc=>by
  simp at hcc;subst hcc;exact ways_send_none hc (F9 _) (partners_nil λj y hy=>by
   rcases getElem?_stand gs 0 j y hy with ⟨-,rfl⟩|⟨XW,hy⟩
   rfl;rcases st0 h j y hy with ⟨x,_⟩|⟨_,_,_,_,x⟩|⟨_,_,x⟩
   exact P' x XW;exact x rfl
   ·exact x _ _))
 refine⟨_,_,_,_,XV,h.Ev (C':=cw0 P ty J Wg c Cl D hC hCr hD hcw Sst Rm zs w0 (v::vs) true false s r tm) (w':=w) rfl (λ_=>Iff.rfl) rfl (Ch:=λ_=>False) (λb hb=>hb.elim) (qQ.refl _ _) (i:=0) (.inl rfl) hi (r:=.leaf) ⟨λ_=>⟨fr,cs,z,rfl,hs,hgs⟩,λe=>P' rfl e⟩ (λj y hj XW hy=>?_) (λb hb=>h.common b hb) (λop XZ=>by rw[ofEvents_none] at XZ;simp at XZ) ?_ λj hj=>⟨λXW=>?_,λ_=>rfl⟩⟩;exact er (λa b Y9=>⟨λe=>P' e XW,λe=>Y9.2 e⟩) (h.walk j y hj hy);exact yk (E4 h) λop XZ=>by rw[ofEvents_none] at XZ;simp at XZ
 rcases hj with ⟨e,-⟩|⟨-,-,e⟩
 exact P' e XW;cases e
theorem Ca(hJ:J≠0)(h:bC (cw0 P ty J Wg c Cl D hC hCr hD hcw Sst Rm zs w0 vs false false s r tm) gs w t S V rk q)(hi:gs[J]? = some g)(hm:RP P c D vs false g (V J)) :
  ∃Yn V' rk' ops,runT P (crowd gs w sl) J=(.next (crowd Yn w sl),ops)∧bC (cw0 P ty J Wg c Cl D hC hCr hD hcw Sst Rm zs w0 vs false true s r tm) Yn w (t++ops) S V' rk' q:=by
 obtain⟨fr,cs,z,hg,hs⟩:=sd hm;rw[Xk (by decide)] at hg;have hm':∀W,RP P c D vs false g W->RP P c D vs true (parked (G fr cs) #[rcase c z] (.recv true)) W:=λW hW=>by
  subst hg;cases vs with
  | nil=>
   obtain⟨fr',cs',z',h1,h2,h3⟩:=hW;rw[Xk (by decide)] at h1;have e1:fr'=fr∧cs'=cs:=(by have:=O' Goroutine.frame h1;have h4:=O' Goroutine.callers h1;exact⟨this.symm,h4.symm⟩);obtain⟨rfl,rfl⟩:=e1;have e2:=(h2 true w).symm.trans (hs true w);have ez:z'=z:=(by injection e2 with _ e3;have:=O' (λa:Array CommCase=>(a[0]?).map (·.zero)) e3;simpa[rcase] using this);subst ez;exact⟨fr',cs',z',by rw[Xl rfl],h2,h3⟩
  | cons a l=>
   obtain⟨fr',cs',z',h1,h2,h3⟩:=hW;rw[Xk (by decide)] at h1;have e1:fr'=fr∧cs'=cs:=(by have:=O' Goroutine.frame h1;have h4:=O' Goroutine.callers h1;exact⟨this.symm,h4.symm⟩);obtain⟨rfl,rfl⟩:=e1;have e2:=(h2 true w).symm.trans (hs true w);have ez:z'=z:=(by injection e2 with _ e3;have:=O' (λa:Array CommCase=>(a[0]?).map (·.zero)) e3;simpa[rcase] using this);subst ez;exact⟨fr',cs',z',by rw[Xl rfl],h2,h3⟩
 have hJ0:(J==0)=false:=by simpa using hJ
 have hc:=nx h;have XV:=crowd_waits (P:=P) (sl:=sl) hi (by rw[hJ0,hg];exact hs false w) (λcc hcc=>by
  simp at hcc;subst hcc;exact ways_recv_none hc (partners_nil λj y hy=>by
   rcases getElem?_stand gs J j y hy with ⟨-,rfl⟩|⟨XW,hy⟩
   rfl;rcases st0 h j y hy with ⟨_,_,_,x⟩|⟨_,x,_⟩|⟨_,_,x⟩
   exact x rfl;exact P' x XW
   ·exact x _ _))
 refine⟨_,_,_,_,XV,h.Ev (C':=cw0 P ty J Wg c Cl D hC hCr hD hcw Sst Rm zs w0 vs false true s r tm) (w':=w) rfl (λ_=>Iff.rfl) rfl (Ch:=λ_=>False) (λb hb=>hb.elim) (qQ.refl _ _) (i:=J) (.inr rfl) hi (r:=.leaf) ⟨λe=>P' e hJ,λ_=>hm' _ hm⟩ (λj y hj XW hy=>?_) (λb hb=>h.common b hb) (λop XZ=>by rw[ofEvents_none] at XZ;simp at XZ) ?_ λj hj=>⟨λXW=>?_,λ_=>rfl⟩⟩;have h0:j=0:=hj.resolve_right XW;exact er (λa b Y9=>⟨λe=>Y9.1 e,λe=>P' h0 e⟩) (h.walk j y hj hy);exact yk (E4 h) λop XZ=>by rw[ofEvents_none] at XZ;simp at XZ
 rcases hj with ⟨-,e⟩|⟨e,-,-⟩
 cases e;exact P' e XW
end
open Go.ConcN (sumTo upd sumTo_upd upd_ne upd_same)
open Go.ConcR (KK wgBlock WgAt stA smA rd wr mk DC0)
section
variable {F:World->Prop}{hF:∀{W W1},F W->Rv W W1->F W1}{lent0:Nat->Option Obj}{Fin:Goroutine->Prop}{hFin:∀g,Fin g->g.status=.running}{zs:Nat->Option Obj}{vs:List Value}{v:Value}{Cl D:Goroutine->World->Prop}{hC:∀{g W W1},Cl g W->Rv W W1->Cl g W1}{hCr:∀g W,Cl g W->g.status=.running}{hD:∀{g W W1},D g W->Rv W W1->D g W1}{gs:Array Goroutine}{S:Nat->Nat->Prop}{V:Nat->World}{sl:Option (Nat×Nat)}{Φ:Value->World->Prop}{S0:Nat->Prop}
theorem Ab(hJ:J≠0)(h:bC (cw0 P ty J Wg c Cl D hC hCr hD hcw Sst Rm zs w0 (v::vs) pm pw s r tm) gs w t S V rk q){g1 g2:Goroutine}(h1:Gs P (MP P c Cl vs false) g1 (V 0))(h2:Gs P (RP P c D vs false) g2 (V J)){u:Trace}
  (hu:∀op∈u,(op.g=0∨op.g=J)∧op.act.touch? = none∧op.act.low w.heap.size∧∀m,op.act≠.mark m) (i j:Nat) (hij:(i=0∧j=J)∨(i=J∧j=0)) :
  ∃V' rk',bC (cw0 P ty J Wg c Cl D hC hCr hD hcw Sst Rm zs w0 vs false false (s+1) (r+1) tm) ((gs.setIfInBounds j (if j=0 then g1 else g2)).setIfInBounds i (if i=0 then g1 else g2)) (w.setChan c 0 #[] false (s+1) (r+1) tm) (t++u) S V' rk' q:=by
 obtain⟨r1,hr1⟩:=h1.dS;obtain⟨r2,ZE⟩:=h2.dS;have hc:=nx h;have hI:=E4 h;have hsc:∀k,k=0∨k=J->S k c:=λk hk=>by obtain⟨-,-,⟨x,y⟩,-⟩:=hI.2.2.2;rcases hk with rfl|rfl;exact x;exact y
 have q1:ZP P ((cw0 P ty J Wg c Cl D hC hCr hD hcw Sst Rm zs w0 vs false false (s+1) (r+1) tm).Q 0) r1 g1 (V 0):=er (λa b Y9=>⟨λ_=>Y9,λe=>P' rfl e⟩) hr1;have q2:ZP P ((cw0 P ty J Wg c Cl D hC hCr hD hcw Sst Rm zs w0 vs false false (s+1) (r+1) tm).Q J) r2 g2 (V J):=er (λa b Y9=>⟨λe=>P' e hJ,λ_=>Y9⟩) ZE;have hzb:∀b:Nat,ZbO Wg c Sst Rm b->(∀k,(k=0∨k=J)->S k b∨Rm b)∧(w.setChan c 0 #[] false (s+1) (r+1) tm).heap[b]? = zOp ty Wg c zs (s+1) (r+1) tm b:=λb hb=>by refine⟨(h.common b hb).1,?_⟩;have h0:=(h.common b hb).2;change _=zOp ty Wg c zs s r tm b at h0;unfold zOp at h0 ⊢;by_cases e:b=c;subst e;rw[Xk hcw,Xl rfl];exact heap_put hc;rw[Xk e] at h0 ⊢;rw[<-h0];exact(Aside.put c w _).block b e
 have hiv:=yk hI (u:=u) λop XZ=>(hu op XZ).2;have hh0:=h.here 0 (.inl rfl);have hhJ:=h.here J (.inr rfl);rcases hij with ⟨rfl,rfl⟩|⟨rfl,rfl⟩
 rw[Xk hJ,Xl rfl];exact⟨_,_,h.JD (C':=cw0 P ty j Wg c Cl D hC hCr hD hcw Sst Rm zs w0 vs false false (s+1) (r+1) tm) rfl (λ_=>Iff.rfl) rfl (Ch:=λb=>b=c) (λb hb k hk=>hb▸hsc k hk) (kZ (Aside.put c w _)) (.inl rfl) (.inr rfl) hJ hh0 hhJ (λk hk=>hk) q1 q2 hzb (λop XZ=>(hu op XZ).1) hiv (by rintro k (⟨-,x⟩|⟨-,-,x⟩)<;>cases x)⟩;rw[Xl rfl,Xk hJ];exact⟨_,_,h.JD (C':=cw0 P ty i Wg c Cl D hC hCr hD hcw Sst Rm zs w0 vs false false (s+1) (r+1) tm) rfl (λ_=>Iff.rfl) rfl (Ch:=λb=>b=c) (λb hb k hk=>hb▸hsc k hk) (kZ (Aside.put c w _)) (.inr rfl) (.inl rfl) (Ne.symm hJ) hhJ hh0 (λk hk=>hk.symm) q2 q1 hzb (λop XZ=>(hu op XZ).1.symm) hiv (by rintro k (⟨-,x⟩|⟨-,-,x⟩)<;>cases x)⟩
theorem CU(hJ:J≠0)(h:bC (cw0 P ty J Wg c Cl D hC hCr hD hcw Sst Rm zs w0 (v::vs) false true s r tm) gs w t S V rk q)(hi:gs[0]? = some g)(hm:MP P c Cl (v::vs) false g (V 0)) :
  ∃Yn w' V' rk' ops,runT P (crowd gs w sl) 0=(.next (crowd Yn w' sl),ops)∧bC (cw0 P ty J Wg c Cl D hC hCr hD hcw Sst Rm zs w0 vs false false (s+1) (r+1) tm) Yn w' (t++ops) S V' rk' q:=by
 obtain⟨fr,cs,z,hg,hs,hgs⟩:=hm;rw[Xk (by decide)] at hg;subst hg;have hc:=nx h;have X0:c<w.heap.size:=(E'.1 hc).1;have hhJ:=h.here J (.inr rfl);have hy:gs[J]? = some gs[J]:=F' hhJ;have hlJ:=h.still J (.inr ⟨rfl,hJ,rfl⟩);have hq:=h.walk J _ (.inr rfl) hy;rw[hlJ] at hq;obtain⟨fr2,cs2,z2,hg2,YP,hgs2⟩:=hq.2 hJ;rw[Xl rfl] at hg2;rw[hg2] at hy;have hpart:partners (gs.setIfInBounds 0 ph) c false=[(J,0)]:=by
  rw[partners_one (j:=J) (g:=parked (G fr2 cs2) #[rcase c z2] (.recv true)) (by rw[M' (Ne.symm hJ)];exact hy) (λk x hk hx=>by
   rcases getElem?_stand gs 0 k x hx with ⟨-,rfl⟩|⟨XW,hx⟩
   rfl;rcases st0 h k x hx with ⟨e,_⟩|⟨_,e,_⟩|⟨_,_,e⟩
   exact P' e XW;exact P' e hk
   ·exact e _ _),offersAt_parked_recv,Xl rfl]
  rfl
 have XV:=crowd_send_meets (P:=P) (sl:=sl) hi (hs true w) hc hJ hy hpart;obtain⟨V',rk',hcr⟩:=Ab (v:=v) hJ h hgs hgs2 (u:=MemOp.ofEvents 0 (G fr cs).frame.fn (G fr cs).frame.place #[]++#[{g:=0,fn:=(G fr cs).frame.fn,pos:=(G fr cs).frame.place,act:=.send c s},{g:=J,fn:=(G fr2 cs2).frame.fn,pos:=(G fr2 cs2).frame.place,act:=.recv c r 0},{g:=0,fn:=(G fr cs).frame.fn,pos:=(G fr cs).frame.place,act:=.sendDone c s},{g:=J,fn:=(G fr2 cs2).frame.fn,pos:=(G fr2 cs2).frame.place,act:=.recvDone c r}]) (λop XZ=>by
  rw[ofEvents_none] at XZ;simp at XZ;rcases XZ with rfl|rfl|rfl|rfl;exact⟨.inl rfl,rfl,X0,λm e=>by cases e⟩;exact⟨.inr rfl,rfl,X0,λm e=>by cases e⟩;exact⟨.inl rfl,rfl,X0,λm e=>by cases e⟩
  ·exact⟨.inr rfl,rfl,X0,λm e=>by cases e⟩) 0 J (.inl ⟨rfl,rfl⟩)
 rw[Xk hJ,Xl rfl] at hcr;exact⟨_,_,V',rk',_,XV,hcr⟩
theorem Cb(hJ:J≠0)(h:bC (cw0 P ty J Wg c Cl D hC hCr hD hcw Sst Rm zs w0 (v::vs) true false s r tm) gs w t S V rk q)(hi:gs[J]? = some g)(hm:RP P c D (v::vs) false g (V J)) :
  ∃Yn w' V' rk' ops,runT P (crowd gs w sl) J=(.next (crowd Yn w' sl),ops)∧bC (cw0 P ty J Wg c Cl D hC hCr hD hcw Sst Rm zs w0 vs false false (s+1) (r+1) tm) Yn w' (t++ops) S V' rk' q:=by
 obtain⟨fr,cs,z,hg,hs,hgs⟩:=hm;rw[Xk (by decide)] at hg;subst hg;have hJ0:(J==0)=false:=by simpa using hJ
 have hc:=nx h;have X0:c<w.heap.size:=(E'.1 hc).1;have hh0:=h.here 0 (.inl rfl);have hy:gs[0]? = some gs[0]:=F' hh0;have hl0:=h.still 0 (.inl ⟨rfl,rfl⟩);have hq:=h.walk 0 _ (.inl rfl) hy;rw[hl0] at hq;obtain⟨fr2,cs2,z2,hg2,YP,hgs2⟩:=hq.1 rfl;rw[Xl rfl] at hg2;rw[hg2] at hy;have hpart:partners (gs.setIfInBounds J ph) c true=[(0,0)]:=by
  rw[partners_one (j:=0) (g:=parked (G fr2 cs2) #[scase c v z2] .send) (by rw[M' hJ];exact hy) (λk x hk hx=>by
   rcases getElem?_stand gs J k x hx with ⟨-,rfl⟩|⟨XW,hx⟩
   rfl;rcases st0 h k x hx with ⟨e,_⟩|⟨_,e,_⟩|⟨_,_,e⟩
   exact P' e hk;exact P' e XW
   ·exact e _ _),offersAt_parked_send,Xl rfl]
  rfl
 have XV:=crowd_recv_meets (P:=P) (sl:=sl) hi (by rw[hJ0];exact hs false w) hc (Ne.symm hJ) hy hpart;obtain⟨V',rk',hcr⟩:=Ab (v:=v) hJ h hgs2 hgs (u:=MemOp.ofEvents J (G fr cs).frame.fn (G fr cs).frame.place #[]++#[{g:=0,fn:=(G fr2 cs2).frame.fn,pos:=(G fr2 cs2).frame.place,act:=.send c s},{g:=J,fn:=(G fr cs).frame.fn,pos:=(G fr cs).frame.place,act:=.recv c r 0},{g:=0,fn:=(G fr2 cs2).frame.fn,pos:=(G fr2 cs2).frame.place,act:=.sendDone c s},{g:=J,fn:=(G fr cs).frame.fn,pos:=(G fr cs).frame.place,act:=.recvDone c r}]) (λop XZ=>by
  rw[ofEvents_none] at XZ;simp at XZ;rcases XZ with rfl|rfl|rfl|rfl;exact⟨.inl rfl,rfl,X0,λm e=>by cases e⟩;exact⟨.inr rfl,rfl,X0,λm e=>by cases e⟩;exact⟨.inl rfl,rfl,X0,λm e=>by cases e⟩
  ·exact⟨.inr rfl,rfl,X0,λm e=>by cases e⟩) J 0 (.inr ⟨rfl,rfl⟩)
 rw[Xl rfl,Xk hJ] at hcr;exact⟨_,_,V',rk',_,XV,hcr⟩
theorem O1{KJ':Trace->Nat->Prop}{Sh:Nat->Prop}{Ex:(Nat->Nat->Prop)->Nat->Prop}{fn:FuncId}{pos:String}(h:ivP J Wg Sh Rm 0 0 (KJc J c) Ex S n t)(hcw:c≠Wg)(X0:c<n)(hS:S J c)(kj:∀k,KJc J c t k->KJ' (t++MemOp.ofEvents 0 fn pos #[⟨.obj c,false,true⟩,⟨.obj c,true,true⟩]) k) :
  ivP J Wg Sh Rm 0 0 KJ' Ex S n (t++MemOp.ofEvents 0 fn pos #[⟨.obj c,false,true⟩,⟨.obj c,true,true⟩]):=by
 have hu:∀op∈MemOp.ofEvents 0 fn pos #[⟨.obj c,false,true⟩,⟨.obj c,true,true⟩],op.g=0∧(op.act=.access ⟨.obj c,false,true⟩∨op.act=.close c):=λop XZ=>by obtain⟨e,he,rfl⟩:=Go.Conc.mem_ofEvents XZ;simp at he;rcases he with rfl|rfl;exact⟨rfl,.inl rfl⟩;exact⟨rfl,.inr rfl⟩
 have ht:∀op∈MemOp.ofEvents 0 fn pos #[⟨.obj c,false,true⟩,⟨.obj c,true,true⟩],∀b,op.act.touch? = some b->b=⟨.obj c,false,.atomic⟩:=λop XZ b hb=>by rcases (hu op XZ).2 with e|e;rw[e] at hb;simpa[MemAct.touch?] using hb.symm;rw[e] at hb;cases hb
 have hd:∀g,Deaf (t++MemOp.ofEvents 0 fn pos #[⟨.obj c,false,true⟩,⟨.obj c,true,true⟩]) g=Deaf t g:=λg=>Deaf_quiet λop XZ d=>by unfold deafStep;split<;>first|rfl|(rename_i e;rcases (hu op XZ).2 with x|x<;>(rw[x] at e;cases e))
 refine⟨h.1.VO (i:=0) (λop XZ=>(hu op XZ).1) (λsaid k a hk op XZ b hb hc=>?_) (λop XZ b hb b0 hb0 j hj XW=>?_) (λop XZ=>?_),h.2.1.app ((hd 0).trans h.2.1.d0) ((hd J).trans h.2.1.dJ) (λop XZ a e=>?_) (λop XZ x hx hb=>?_) kj λp op hp _ XZ x hx b hb=>.inl (hu op XZ).1,h.2.2⟩;have hl:=hc.1;rw[ht op XZ b hb] at hl;rcases h.2.1.all k a hk c (by rw[hl];rfl) with x|x|x;exact x;exact P' rfl (x.2.2 a hk c (by rw[hl];rfl));obtain⟨ad,had⟩:=x.2.1;rw[hl] at had;cases had;rw[ht op XZ b hb] at hb0;obtain rfl:c=b0:=Oi hb0;rcases hj with rfl|rfl;exact P' rfl XW;exact hS;rcases (hu op XZ).2 with x|x<;>rw[x]<;>exact X0
 ·rcases (hu op XZ).2 with x|x<;>(rw[x] at e;cases e)
 rw[ht op XZ x hx] at hb;exact P' (Oi hb) hcw
def zCl(c:Nat)(zs:Nat->Option Obj)(s r:Nat)(tm:Bool)(b:Nat):Option Obj:=if b=c then some (.chan 0 #[] true s r tm) else zs b
set_option maxHeartbeats 4000000 in
theorem Af(hJ:J≠0){hC':∀{g W W1},ClQ P ty Wg c Fin g W->Rv W W1->ClQ P ty Wg c Fin g W1}{hCr':∀g W,ClQ P ty Wg c Fin g W->g.status=.running}{hD':∀{g W W1},DnQ P ty Wg F g W->Rv W W1->DnQ P ty Wg F g W1}
  (h:bC (cw0 P ty J Wg c (ClQ P ty Wg c Fin) (DnQ P ty Wg F) hC' hCr' hD' hcw Sst Rm zs w0 [] false pw s r tm) gs w t S V rk q) (hi:gs[0]? = some g) (hm:ClQ P ty Wg c Fin g (V 0)) :
  ∃Yn w' V' rk' ops,runT P (crowd gs w sl) 0=(.next (crowd Yn w' sl),ops)∧bC (Zd P ty J Wg c (pL P ty Wg c F hF) (YM Wg Sst) Sst Rm Fin hFin (ZbO Wg c Sst Rm) (zCl c zs s r tm) (.inr (.inl rfl)) w0 .own 0 .rc 0) Yn w' (t++ops) S V' rk' q:=by
 obtain⟨-,hmw,g',hrun',Ya,hgs⟩:=hm;obtain⟨r1,hr1⟩:=hgs.dS;have hc:=nx h;have hI:=E4 h;have X0:c<w.heap.size:=(E'.1 hc).1;have hsc:∀k,k=0∨k=J->S k c:=λk hk=>by obtain⟨-,-,⟨x,y⟩,-⟩:=hI.2.2.2;rcases hk with rfl|rfl;exact x;exact y
 have XV:=runT_crowd_go (P:=P) (sl:=sl) (i:=0) hi (Ya w s r tm hc);have hput:=heap_put (o':=.chan 0 #[] true s r tm) hc;refine⟨_,_,_,_,_,XV,h.Oe (C':=Zd P ty J Wg c (pL P ty Wg c F hF) (YM Wg Sst) Sst Rm Fin hFin (ZbO Wg c Sst Rm) (zCl c zs s r tm) (.inr (.inl rfl)) w0 .own 0 .rc 0) rfl (λ_=>Iff.rfl) rfl (Ch:=λb=>b=c) (λb hb k hk=>hb▸hsc k hk) (kZ (Aside.put c w _)) (.inl rfl) hi (r:=r1) (er (λa b Y9=>⟨λ_=>Y9,λe=>P' rfl e⟩) hr1) (λj y hj XW hy=>?_) (λb hb=>?_) ?_ λj hj=>⟨λXW=>?_,λe=>?_⟩⟩
 ·have hjJ:j=J:=hj.resolve_left XW;have hq:=h.walk j y hj hy;cases hr:rk j with
  | mk f=>
   rw[hr] at hq;rw[woken_run hq.1];have hpw:pw=false:=by
    cases hp:pw with
    | false=>rfl
    | true=>have:=h.still j (.inr ⟨hjJ,XW,hp⟩);rw[hr] at this;cases this
   subst hpw;refine er (λa b Y9=>⟨λe=>P' e XW,λe=>?_⟩) hq;obtain⟨fr,cs,z,x1,x2,x3⟩:=Y9.2 e;rw[Xk (by decide)] at x1;exact⟨fr,cs,z,.inl x1,x2,x3⟩
  | leaf=>
   rw[hr] at hq;obtain⟨fr,cs,z,x1,x2,x3⟩:=hq.2 XW;refine⟨λe=>P' e XW,λ_=>?_⟩;cases pw with
   | false=>
    rw[Xk (by decide)] at x1;subst x1;rw[woken_run rfl];exact⟨fr,cs,z,.inl rfl,x2,x3⟩
   | true=>
    rw[Xl rfl] at x1;subst x1;have hw:woken P g g' {w with heap:=w.heap.setIfInBounds c (.chan 0 #[] true s r tm)} (parked (G fr cs) #[rcase c z] (.recv true)) = {parked (G fr cs) #[rcase c z] (.recv true) with status:=.running}:=(by have a2:(g'.status != .blocked&&g'.status != .waiting)=true:=(by rw[hrun'];rfl);unfold woken;rw[hmw,Bool.true_and,Xl a2];exact again_recv_closed hput);rw[hw];exact⟨fr,cs,z,.inr rfl,x2,x3⟩
 refine⟨(h.common b hb).1,?_⟩;have h0:=(h.common b hb).2;change _=zOp ty Wg c zs s r tm b at h0;show _=ZY ty Wg (zCl c zs s r tm) .own .rc b;unfold zOp at h0;unfold ZY zCl;by_cases e:b=c;subst e;rw[Xk hcw,Xl rfl];exact hput;rw[Xk e] at h0 ⊢;have h1:({w with heap:=w.heap.setIfInBounds c (.chan 0 #[] true s r tm)} : World).heap[b]? = w.heap[b]?:=(Aside.put c w _).block b e;rw[h1,h0];rfl
 ·show ivP J Wg (YM Wg Sst) Rm 0 (qB J .own .rc) (ZO J Wg .own .rc) (Ex1 J Wg c w0.heap.size Sst) S w.heap.size _;have hdw:qB J .own .rc=0:=Xk hJ;rw[hdw];exact O1 hI hcw X0 (hsc J (.inr rfl)) λk hk=>⟨λe=>(by cases e),Knows.app _ hk.1⟩
 ·rcases hj with ⟨e,-⟩|⟨-,-,e⟩
  exact P' e XW;cases e
 rcases hj with ⟨-,e2⟩|⟨-,-,e2⟩
 exact P' rfl e2;cases e2
theorem PO(hJ:J≠0){hC':∀{g W W1},ClQ P ty Wg c Fin g W->Rv W W1->ClQ P ty Wg c Fin g W1}{hCr':∀g W,ClQ P ty Wg c Fin g W->g.status=.running}{hD':∀{g W W1},DnQ P ty Wg F g W->Rv W W1->DnQ P ty Wg F g W1}
  (hF:∀{W W1},F W->Rv W W1->F W1) (hFin:∀g,Fin g->g.status=.running) (hSW:∀b,Sst b->b≠Wg∧b≠c) (hS0:∀b:Nat,S0 b->Sst b∧zs b=w00.heap[b]?) (hSst:∀b:Nat,Sst b->S0 b∨w00.heap.size<=b) (hWg:w00.heap.size<=Wg) (hRm:∀b,Rm b->zs b=lent0 b∧¬Sst b∧b≠Wg∧b≠c∧∃cs tt fr,lent0 b=some (.cells cs tt fr)) (HB:yX P Φ w00 S0 Fin F w0 Rm lent0 c Wg) :
  ∀n:Nat,∀(vs:List Value) (pm pw:Bool) (s r:Nat) (tm:Bool),2*vs.length+(if pm=true∨pw=true then 0 else 1)=n->¬(pm=true∧pw=true)->∀{gs w sl t S V rk q},
   bC (cw0 P ty J Wg c (ClQ P ty Wg c Fin) (DnQ P ty Wg F) hC' hCr' hD' hcw Sst Rm zs w0 vs pm pw s r tm) gs w t S V rk q->Ends P Φ (crowd gs w sl) t:=by
 intro n
 induction n using Nat.strongRecOn with|ind n ih=>?_
 intro vs pm pw s r tm hn hp gs w sl t S V rk q h;refine lQ (λhc=>LR hJ hp hc) ?_ h;intro gs w sl t S V rk q i g hcr Yx hi XV hl hQ;by_cases Z0:i=0
 ·subst Z0;have hm:=hQ.1 rfl;have hpm:pm=false:=by
   cases pm with
   | false=>rfl
   | true=>have:=tX hCr' hm;rw[XV] at this;simp at this
  subst hpm;cases vs with
  | nil=>
   obtain⟨Yn,w',V',rk',ops,b1,b2⟩:=Af (sl:=sl) (hF:=hF) (hFin:=hFin) hJ hcr hi hm.2;refine⟨_,_,b1,.inl (PN hJ (λb hb=>(hSW b hb).1) ⟨hcw,.inl rfl,s,r,tm,Xl rfl⟩ (λb hb=>.inr (.inr (.inl hb))) (λb hb=>?_) hSst hWg (λb hb=>?_) HB _ _ _ .own 0 .rc 0 rfl rfl rfl rfl (.inl rfl) b2)⟩;obtain⟨a1,a2⟩:=hS0 b hb;exact⟨a1,(Xk (hSW b a1).2).trans a2⟩;obtain⟨a1,a2,a3,a4,a5⟩:=hRm b hb;exact⟨.inr (.inr (.inr hb)),(Xk a4).trans a1,λx=>x.elim a2 a3,a5⟩
  | cons v vs=>
   cases pw with
   | false=>
    obtain⟨Yn,V',rk',ops,b1,b2⟩:=CS (sl:=sl) hcr hi hm;exact⟨_,_,b1,.inl (ih _ (by rw[<-hn];simp) (v::vs) true false s r tm rfl (by simp) b2)⟩
   | true=>
    obtain⟨Yn,w',V',rk',ops,b1,b2⟩:=CU (sl:=sl) hJ hcr hi hm;exact⟨_,_,b1,.inl (ih _ (by rw[<-hn];simp;omega) vs false false (s+1) (r+1) tm rfl (by simp) b2)⟩
 have hiJ:i=J:=Yx.resolve_left Z0;subst hiJ;have hm:=hQ.2 Z0;have hpw:pw=false:=by
  cases pw with
  | false=>rfl
  | true=>have:=tu hm;rw[XV] at this;simp at this
 subst hpw;cases hpm:pm with
 | false=>
  subst hpm;obtain⟨Yn,V',rk',ops,b1,b2⟩:=Ca (sl:=sl) hJ hcr hi hm;exact⟨_,_,b1,.inl (ih _ (by rw[<-hn];simp) vs false true s r tm rfl (by simp) b2)⟩
 | true=>
  subst hpm;cases vs with
  | nil=>
   have hh0:=hcr.here 0 (.inl rfl);have hy:gs[0]? = some gs[0]:=F' hh0;have hl0:=hcr.still 0 (.inl ⟨rfl,rfl⟩);have hq:=hcr.walk 0 _ (.inl rfl) hy;rw[hl0] at hq;exact P' (hq.1 rfl).1 (by decide)
  | cons v vs=>
   obtain⟨Yn,w',V',rk',ops,b1,b2⟩:=Cb (sl:=sl) hJ hcr hi hm;exact⟨_,_,b1,.inl (ih _ (by rw[<-hn];simp;omega) vs false false (s+1) (r+1) tm rfl (by simp) b2)⟩
end
open Go.ConcN (sumTo upd sumTo_upd upd_ne upd_same)
open Go.ConcR (KK wgBlock WgAt stA smA rd wr mk DC0)
inductive AK where|kd|add|sr|ke|bk|ow
deriving DecidableEq
variable {k:AK}
def AK.dS:AK->Nat|kd=>9|add=>8|sr=>7|ke=>6|bk=>5|ow=>4
def AK.deaf:AK->Nat|add=>1|sr=>1|ke=>1|_=>0
def AK.val:AK->Int|kd=>0|add=>0|_=>KK
def tG:Obj:=.cells #[] 0 (0,0)
structure Ud (c Wg:Nat) (Rm:Nat->Prop) (W Wm:World):Prop where
 os:Wm.os=W.os
 tape:Wm.tape=W.tape
 output:Wm.output=W.output
 size:Wm.heap.size=W.heap.size
 same:∀b:Nat,b≠c->b≠Wg->¬Rm b->Wm.heap[b]? = W.heap[b]?
 lent:∀b:Nat,Rm b->VR (W.heap[b]?) (Wm.heap[b]?)
 chan:Wm.heap[c]? = some tG
 group:Wm.heap[Wg]? = some tG
def GoQ(P:Program)(c:Nat)(Rm:Nat->Prop)(Cl D:Goroutine->World->Prop)(vs:List Value)(g:Goroutine)(W:World):Prop:=
 g.status=.running∧∃g1 child,(∀main w,stepG P main g w=.spawn g1 child w #[])∧(∀b,Rm b->∃o,W.heap[b]? = some o)∧(∀W0:World,(∀b:Nat,Rm b->W0.heap[b]? = W.heap[b]?)->Gs P (MP P c Cl vs false) g1 W0)∧Gs P (RP P c D vs false) child W
section
variable (P:Program)(ty:TypeId)(Wg:Nat)(Fa:Goroutine->Prop)(Qg:Goroutine->World->Prop)
def QA:AK->Nat->Goroutine->World->Prop
 | .kd,n,g,_=>Lqn P true ty Wg (AMk P true .disable (Lq P true ty Wg (Ug P true ty Wg (Lq P true ty Wg (AMk P true (.read (smA Wg)) (Lq P true ty Wg (AMk P true .enable (Lq P true ty Wg Fa)))))))) n g
 | .add,n,g,_=>Lqn P true ty Wg (Ug P true ty Wg (Lq P true ty Wg (AMk P true (.read (smA Wg)) (Lq P true ty Wg (AMk P true .enable (Lq P true ty Wg Fa)))))) n g
 | .sr,n,g,_=>Lqn P true ty Wg (AMk P true (.read (smA Wg)) (Lq P true ty Wg (AMk P true .enable (Lq P true ty Wg Fa)))) n g
 | .ke,n,g,_=>Lqn P true ty Wg (AMk P true .enable (Lq P true ty Wg Fa)) n g
 | .bk,n,g,_=>Lqn P true ty Wg Fa n g∧¬Fa g
 | .ow,_,g,W=>Qg g W
end
section
variable {Fa:Goroutine->Prop}{Qg:Goroutine->World->Prop}{W W1:World}
theorem JJ(hQ:∀{g W W1},Qg g W->Rv W W1->Qg g W1)(h:QA P ty Wg Fa Qg k n g W)(r:Rv W W1):QA P ty Wg Fa Qg k n g W1:=by cases k<;>first|exact h|exact hQ h r
theorem JI(hFa:∀g,Fa g->g.status=.running)(hQ:∀g W,Qg g W->g.status=.running)(h:QA P ty Wg Fa Qg k n g W)(hw:WgLive ty Wg w):g.status=.running:=by
 cases k with
 | kd=>exact cN h hw λg h=>h.1
 | add=>exact cN h hw λg h=>h.1
 | sr=>exact cN h hw λg h=>h.1
 | ke=>exact cN h hw λg h=>h.1
 | bk=>exact cN h.1 hw hFa
 | ow=>exact hQ g W h
end
def zA(ty:TypeId)(Wg c:Nat)(zs:Nat->Option Obj)(s r:Nat)(tm:Bool)(k:AK)(b:Nat):Option Obj:=if b=Wg then some (wgBlock ty k.val 0) else if b=c then some (.chan 0 #[] false s r tm) else zs b
def ExA(Wg c n0:Nat)(Sst:Nat->Prop)(S:Nat->Nat->Prop)(n:Nat):Prop:=(∀b,S 0 b->b<n)∧(∀b,Sst b->S 0 b)∧S 0 c∧(∀b,S 0 b->Sst b∨b=c∨b=Wg)∧n0<=n∧Wg<n
def cwA(P:Program)(ty:TypeId)(Wg c:Nat)(Fa:Goroutine->Prop)(hFa:∀g,Fa g->g.status=.running)(Qg:Goroutine->World->Prop)(hQ:∀{g W W1},Qg g W->Rv W W1->Qg g W1)(hQr:∀g W,Qg g W->g.status=.running)
  (Sst Rm:Nat->Prop) (zs:Nat->Option Obj) (w0:World) (s r:Nat) (tm:Bool) (k:AK) (n:Nat):Cw P:=
 cwP P 0 Wg (YM Wg Sst) Rm (λi=>i=0∧k≠.ow) (λi g W=>i=0->QA P ty Wg Fa Qg k n g W∧(k≠.ow->∀g',Fa g'->Gs P Qg g' W)) (ZbO Wg c Sst Rm) (zA ty Wg c zs s r tm k) k.deaf k.deaf (λ_ _=>False) (ExA Wg c w0.heap.size Sst) w0
  (λh r e=>⟨JJ (λx y=>hQ x y) (h e).1 r,λe2 g' hg=>((h e).2 e2 g' hg).later (λx y=>hQ x y) r⟩)
  (λ{i g p p' W w'} h hz e=>by have hw:=dX (ty:=ty) (Wg:=Wg) (by have:=hz Wg (.inr (.inl rfl));unfold zA at this;rwa [Xl rfl] at this);rw[woken_run (JI hFa hQr (h e).1 hw)];exact h e)
  (λ_ _ _ h=>h.elim)
  (λh0 _ _ _ _ _ _=>P' rfl h0)
  (λ{S n n' i} hi _ hn h=>by have Z0:i=0:=(by rcases hi with e|e<;>exact e);subst Z0;obtain⟨h1,h2,h3,h4,h6,h5⟩:=h;exact⟨λb hb=>Nat.lt_of_lt_of_le (h1 b (hb.resolve_right λx=>x.1 rfl)) hn,λb hb=>.inl (h2 b hb),.inl h3,λb hb=>h4 b (hb.resolve_right λx=>x.1 rfl),Nat.le_trans h6 hn,Nat.lt_of_lt_of_le h5 hn⟩)
section
variable {Fa:Goroutine->Prop}{hFa:∀g,Fa g->g.status=.running}{Qg:Goroutine->World->Prop}{hQ:∀{g W W1},Qg g W->Rv W W1->Qg g W1}{hQr:∀g W,Qg g W->g.status=.running}{zs:Nat->Option Obj}{k':AK}{n':Nat}{gs:Array Goroutine}{W:World}{S:Nat->Nat->Prop}{V:Nat->World}{sl:Option (Nat×Nat)}{Φ:Value->World->Prop}
theorem wgA(h:bC (cwA P ty Wg c Fa hFa Qg hQ hQr Sst Rm zs w0 s r tm k n) gs w t S V rk q):w.heap[Wg]? = some (wgBlock ty k.val 0):=by
 have:=(h.common Wg (.inr (.inl rfl))).2;change _=zA ty Wg c zs s r tm k Wg at this;unfold zA at this
 rwa [Xl rfl] at this
theorem LQ(h:bC (cwA P ty Wg c Fa hFa Qg hQ hQr Sst Rm zs w0 s r tm k n) gs w t S V rk q):(∀g∈gs,awake g)∧∃(i:Nat) (g:Goroutine),gs[i]? = some g∧g.status=.running:=by
 have hw:=dX (wgA h);have h0:∀y,gs[0]? = some y->y.status=.running:=λy hy=>by
  have hq:=h.walk 0 y (.inl rfl) hy;cases hr:rk 0 with
  | mk f=>rw[hr] at hq;exact hq.1
  | leaf=>rw[hr] at hq;exact JI hFa hQr (hq rfl).1 hw
 refine⟨λy hy=>?_,?_⟩;obtain⟨j,X0,rfl⟩:=Array.mem_iff_getElem.1 hy;have hy':gs[j]? = some gs[j]:=F' X0;by_cases e:j=0;subst e;exact awake_of (.inl (h0 _ hy'));exact awake_of ((h.old j _ (λx=>by rcases x with x|x<;>exact e x) hy').status.imp id .inr);have hy:=F' (h.here 0 (.inl rfl));exact⟨0,_,hy,h0 _ hy⟩
theorem BH(h:bC (cwA P ty Wg c Fa hFa Qg hQ hQr Sst Rm zs w0 s r tm k n) gs w t S V rk q)(hi:gs[0]? = some g)(hs:stepG P true g w=.go g' w' es)(hw:Aside Wg w w'){rr:Rk}(hg:ZP P (λg W=>QA P ty Wg Fa Qg k' n' g W∧(k'≠.ow->∀g',Fa g'->Gs P Qg g' W)) rr g' (V 0))(hrr:k'≠.ow->rr=.leaf)
  (hz:w'.heap[Wg]? = some (wgBlock ty k'.val 0)) (hiv:ivP 0 Wg (YM Wg Sst) Rm k'.deaf k'.deaf (λ_ _=>False) (ExA Wg c w0.heap.size Sst) S w.heap.size (t++MemOp.ofEvents 0 g.frame.fn g.frame.place es)) :
  ∃Yn V' rk',runT P (crowd gs w sl) 0=(.next (crowd Yn w' sl),MemOp.ofEvents 0 g.frame.fn g.frame.place es)∧bC (cwA P ty Wg c Fa hFa Qg hQ hQr Sst Rm zs w0 s r tm k' n') Yn w' (t++MemOp.ofEvents 0 g.frame.fn g.frame.place es) S V' rk' q:=by
 refine⟨_,_,_,runT_crowd_go hi hs,h.Oe (C':=cwA P ty Wg c Fa hFa Qg hQ hQr Sst Rm zs w0 s r tm k' n') rfl (λj=>Iff.rfl) rfl (Ch:=λb=>b=Wg) (λb hb j hj=>hb▸h.trace.2.2.1 j hj) (kZ hw) (.inl rfl) hi (r:=rr) (er (λa b Y9 _=>Y9) hg) (λj y hj XW hy=>?_) (λb hb=>?_) hiv λj hj=>⟨λXW=>P' hj.1 XW,λ_=>hrr hj.2⟩⟩;exact P' (by rcases hj with x|x<;>exact x) XW;refine⟨(h.common b hb).1,?_⟩;show _=zA ty Wg c zs s r tm k' b;unfold zA;by_cases e:b=Wg;rw[Xl e,e];exact hz;rw[Xk e,hw.block b e];have:=(h.common b hb).2;change _=zA ty Wg c zs s r tm k b at this;unfold zA at this
 rwa [Xk e] at this
end
end Go.Proofs.YtmdpdknpapjchaaGreatDoor
