/- A symbolic executor with lists, 15. -/
import Derived.Test.YtgigkennhdolpaaGreatDoorM11
import Derived.Test.YtgigkennhdolpaaGreatDoorM2
import Derived.AtR
namespace Go.Proofs.YtgigkennhdolpaaGreatDoor
open Go.RowKit
section
variable {PP:Program}{C:Cx PP}{Γ:List (UW C)}{nt:Nat}{ops:Array Oper}{heads:List Oper}{st0:St}{S:Nat->St}{w0:World}{UT:Names}
theorem sW{listed:Array Bool}{i:Nat}(h:i<listed.size):(listed.setIfInBounds i true).getD i false=true:=by simp[h]
theorem Mem.T9{w0 W W':World}{UT ρ US:Names}{nm nT:Nat}{wn:Option Nat}{fr:Bool}(h:Mem C w0 UT nT ρ W)(e:Xh C ρ W nm wn fr US W')(hf:fr=true->nm<nT)(hw:∀n,wn=some n->n<nT):Mem C w0 UT nT US W':=by
 have e':Xh C ρ W nT wn fr US W'->Mem C w0 UT (ly fr nT) US W':=λe'=>h.eff e' λn hn=>by have:=hw n hn;cases fr<;>simp only[ly]<;>omega
 have hs:=h.keep.size;have Wh:∀n b,bY US n b->bY ρ n b∨W.heap.size<=b:=λn b ho=>by
  rcases ho with ho|⟨ep,l,o,h1,h2,h3,h4⟩|⟨i,l,o,h1,h3,h4⟩
  ·rcases e.nn n b ho with h1|⟨-,-,-,h1⟩
   exact .inl (.inl h1);exact .inr h1
  ·rcases e.nv ep l h1 with k1|⟨-,-,k2,k3⟩
   exact .inl (.inr (.inl ⟨ep,l,o,k1,h2,h3,h4⟩));rw[<-h2];exact k3 b o h4 h3
  exact .inl (.inr (.inr ⟨i,l,o,(e.nk n i).symm.trans h1,h3,h4⟩))
 refine⟨e.hb,λn b hn=>?_,λep l hl=>?_,λm i l hl=>h.domk m i l ((e.nk m i).symm.trans hl),h.le.trans e.le,λn b hn=>?_,λb i c hz=>?_,⟨e.os.trans h.keep.os,e.tape.trans h.keep.tape,e.output.trans h.keep.output,Nat.le_trans hs e.size,λb hb hn=>?_⟩⟩
 ·rcases e.nn n b hn with h1|⟨rfl,h2,-,-⟩
  exact h.dom n b h1;exact hf h2
 ·rcases e.nv ep l hl with h1|⟨rfl,h2,h3,-⟩
  exact h.domv ep l h1;exact⟨hf h2,hw _ h3⟩
 rcases Wh n b hn with h1|h1;exact h.old n b h1;exact .inr (by omega);rcases e.nz b i c hz with h1|h1;exact h.zold b i c h1;exact .inr (.inl (by omega));refine(e.block b (by omega) λn _ ho=>?_).trans (h.keep.block b hb hn);rcases h.old n b ho with h1|h1;exact hn h1;omega
theorem Mem.up{w0 W:World}{UT ρ:Names}{n m:Nat}(h:Mem C w0 UT n ρ W)(hn:n<=m):Mem C w0 UT m ρ W:=
 ⟨h.hb,λk b hk=>Nat.lt_of_lt_of_le (h.dom k b hk) hn,λe l hl=>⟨Nat.lt_of_lt_of_le (h.domv e l hl).1 hn,Nat.lt_of_lt_of_le (h.domv e l hl).2 hn⟩,λm i l hl=>Nat.lt_of_lt_of_le (h.domk m i l hl) hn,h.le,h.old,h.zold,h.keep⟩
def Given(heads:List Oper)(st0:St)(S:Nat->St)(listed:Array Bool)(m:Nat):Prop:=m<st0.nm∨∃i,i<heads.length∧listed.getD i false=true∧(S (i+1)).nm=(S i).nm+1∧(S i).nm=m
structure HI (C:Cx PP) (nt:Nat) (w0:World) (UT:Names) (heads:List Oper) (st0:St) (S:Nat->St) (V1:Names) (a0:Act) (listed:Array Bool) (ρ:Names) (a:Act) (W:World):Prop where
 mem:Mem C w0 UT (S heads.length).nm ρ W
 le:V1.le ρ
 domn:∀m b,ρ.n m=some b->Given heads st0 S listed m
 domv:∀m b,ρ.v m=some b->Given heads st0 S listed m
 con:∀m sb,look st0.H m=some sb->(∀i VC,i<heads.length->Wr S i m VC->listed.getD i false=false)->c8 ρ W m sb
 wr:∀i m sb,i<heads.length->listed.getD i false=true->Wr S i m sb->(∀j VC,i<j->j<heads.length->Wr S j m VC->listed.getD j false=false)->c8 ρ W m sb
 ins:∀t s,look (S heads.length).sl t=some s->s.rg=st0.rg->listed.getD s.k false=true->mS ρ a s.g s.v t
 out:∀t,(∀j oj,heads[j]? = some oj->oj.dst=some t->listed.getD j false=false)->a.tmps[t]? = a0.tmps[t]?
 sz:a.tmps.size=nt
 df:a.defers=UT.d
variable {V1:Names}{a0:Act}{W1:World}
theorem Nd(F:cJ Γ nt ops.toList heads st0 S){n:Nat}(hn:heads.length=n)(h0:RI C nt w0 UT st0 V1 a0 W1)
  (listed:Array Bool) (a:Act) (W:World) (i:Nat) (o:Oper) (inv:HeadInv .any ops n listed) (hI:∃ρ,HI C nt w0 UT heads st0 S V1 a0 listed ρ a W) (hi:i<n) (ho:ops[i]? = some o) (Zr:heads[i]? = some o) (Zo:listed.getD i false=false)
  (Va:∀e∈o.after,Region.binds .any e=true->listed.getD e.on false=true) :
  Region.wanted o (yielded ops a.tmps)=true->NS C.P (execOp a.eval o):=by
 obtain⟨ρ,h⟩:=hI;subst hn;have hil:i<listed.size:=by rw[inv.size];exact(E'.1 ho).1
 obtain⟨o',g,R,r,VF⟩:=F.one hi;obtain rfl:o'=o:=by have:=VF.at_;rw[Zr] at this;exact(Oi this).symm
 have hg:=VF.gd;have hD:=VF.d;have hrdl:=VF.rd;rw[F.rg i (by omega)] at hg hD hrdl;obtain⟨d1,d2⟩:=k9 VF.dst;have ZR:∀oo,ops[i]? = some oo->∀e∈oo.after,Region.binds .any e=true->listed.getD e.on false=true:=λoo hoo=>by rw[ho] at hoo;obtain rfl:=Oi hoo;exact Va
 have wait:∀j,ib o' j=true->listed.getD j false=true:=λj hj=>by obtain⟨e,he,hb,hon⟩:=gY hj;rw[<-hon];exact Va e he hb
 -- Ye guards' cC
 have ZI:∀p∈g,∃s',look (S heads.length).sl p.1=some s'∧s'.rg=st0.rg∧s'.k<i∧listed.getD s'.k false=true:=by
  rcases g8 hg with ⟨-,rfl⟩|⟨j,Vj,oj,u,s',e1,e2,e3,e4,e5,e6,rfl,e7⟩
  intro p hp;cases hp;have WB:=F.up (i:=i) (by omega) (I' _) e4 e5;have hl:listed.getD s'.k false=true:=(by rw[e6];exact wait j (e7 rfl));intro p hp;rcases UI.1 hp with rfl|hp;exact⟨s',WB,e5,(F.ins _ (by omega) u s' e4 e5).1,hl⟩;obtain⟨s2,q1,q2,q4,q3⟩:=F.atoms rfl s'.k u s' rfl WB e5 p hp;exact⟨s2,q1,q2,by have:=(F.ins _ (by omega) u s' e4 e5).1;omega,q3 listed inv hl⟩
 have hw:Region.wanted o' (yielded ops a.tmps)=true↔holds a g:=by
  rcases g8 hg with ⟨h1,rfl⟩|⟨j,Vj,oj,u,s',e1,e2,e3,e4,e5,e6,rfl,e7⟩
  exact⟨λ_=>holds_nil a,λ_=>dc h1⟩;refine⟨λhw=>?_,λhh=>(fe e1 e2 e3).2 (hh _ Ut)⟩;have hb:=(fe e1 e2 e3).1 hw;have WB:=F.up (i:=i) (by omega) (I' _) e4 e5;have hl:listed.getD s'.k false=true:=(by rw[e6];exact wait j (e7 rfl));have:=((h.ins u s' WB e5 hl).of_bool hb).1;intro p hp;rcases UI.1 hp with rfl|hp;exact hb;exact this p hp
 have U5:holds a g->mq (mV true heads i st0.rg (S i).sl o' g) a ρ:=by
  intro hh ex x v e hex;rw[su] at e;split at e;obtain rfl:=Oi e;exact jG;obtain rfl:=Oi e;rfl;obtain rfl:=Oi e;rfl;rename_i t;split at e;cases e;rename_i s hl;split at e
  ·rename_i hr;have hr:=Nb hr;split at e
   ·rename_i hsub;simp only at e;split at e
    ·rename_i hwt;obtain rfl:=Oi e;obtain⟨y,h1,h2⟩:=(h.ins t s (F.up (i:=i) (by omega) (I' _) hl hr) hr (wait _ hwt)).1 (λp hp=>by
      rcases UJ.1 (oa hsub p hp) with hp|hp;exact pN (hex p hp)
      ·exact hh p hp)
     rw[aW h2];exact h1
    cases e
   cases e
  rename_i hr;have hr:s.rg≠st0.rg:=λe=>(by rw[e,UN] at hr;cases hr);split at e
  ·rename_i hgn;simp only at e;split at e
   ·rename_i Xq;obtain rfl:=Oi e;obtain⟨y,h1,h2⟩:=h0.out t s (F.out i (by omega) t s hl hr) hr hgn;have V6:∀j oj,heads[j]? = some oj->oj.dst=some t->listed.getD j false=false:=λj oj hj hdj=>by
     obtain⟨e,he,hb,hon⟩:=gY (pP Xq j oj hj hdj);cases hlj:listed.getD j false with
     | false=>rfl
     | true=>
      have hjo:ops[j]? = some oj:=(by simpa using F.hd j oj hj);have:=inv.closed j oj hjo hlj e he hb;rw[hon,Zo] at this;cases this
    rw[aW ((h.out t V6).trans h2)];exact bM h.le _ _ h1
   cases e
  cases e
 exact λhwt=>Tp (U5 (hw.1 hwt)) hD
theorem u9(F:cJ Γ nt ops.toList heads st0 S){n:Nat}(hn:heads.length=n)(h0:RI C nt w0 UT st0 V1 a0 W1)
  (listed:Array Bool) (a:Act) (W:World) (i:Nat) (o:Oper) (inv:HeadInv .any ops n listed) (hI:∃ρ,HI C nt w0 UT heads st0 S V1 a0 listed ρ a W) (hi:i<n) (ho:ops[i]? = some o) (Zr:heads[i]? = some o) (Zo:listed.getD i false=false)
  (Va:∀e∈o.after,Region.binds .any e=true->listed.getD e.on false=true) (K:Act->World->Prop) (hK:∀a' W',(∃ρ,HI C nt w0 UT heads st0 S V1 a0 (listed.setIfInBounds i true) ρ a' W')->K a' W') :
  if Region.wanted o (yielded ops a.tmps)=true then dB C.P C.co o a W K else K (a.put o.dst undef) W:=by
 obtain⟨ρ,h⟩:=hI;subst hn;have hil:i<listed.size:=by rw[inv.size];exact(E'.1 ho).1
 obtain⟨o',g,R,r,VF⟩:=F.one hi;obtain rfl:o'=o:=by have:=VF.at_;rw[Zr] at this;exact(Oi this).symm
 have hg:=VF.gd;have hD:=VF.d;have hrdl:=VF.rd;rw[F.rg i (by omega)] at hg hD hrdl;obtain⟨d1,d2⟩:=k9 VF.dst;have ZR:∀oo,ops[i]? = some oo->∀e∈oo.after,Region.binds .any e=true->listed.getD e.on false=true:=λoo hoo=>by rw[ho] at hoo;obtain rfl:=Oi hoo;exact Va
 have wait:∀j,ib o' j=true->listed.getD j false=true:=λj hj=>by obtain⟨e,he,hb,hon⟩:=gY hj;rw[<-hon];exact Va e he hb
 -- Ye guards' cC
 have ZI:∀p∈g,∃s',look (S heads.length).sl p.1=some s'∧s'.rg=st0.rg∧s'.k<i∧listed.getD s'.k false=true:=by
  rcases g8 hg with ⟨-,rfl⟩|⟨j,Vj,oj,u,s',e1,e2,e3,e4,e5,e6,rfl,e7⟩
  intro p hp;cases hp;have WB:=F.up (i:=i) (by omega) (I' _) e4 e5;have hl:listed.getD s'.k false=true:=(by rw[e6];exact wait j (e7 rfl));intro p hp;rcases UI.1 hp with rfl|hp;exact⟨s',WB,e5,(F.ins _ (by omega) u s' e4 e5).1,hl⟩;obtain⟨s2,q1,q2,q4,q3⟩:=F.atoms rfl s'.k u s' rfl WB e5 p hp;exact⟨s2,q1,q2,by have:=(F.ins _ (by omega) u s' e4 e5).1;omega,q3 listed inv hl⟩
 have hw:Region.wanted o' (yielded ops a.tmps)=true↔holds a g:=by
  rcases g8 hg with ⟨h1,rfl⟩|⟨j,Vj,oj,u,s',e1,e2,e3,e4,e5,e6,rfl,e7⟩
  exact⟨λ_=>holds_nil a,λ_=>dc h1⟩;refine⟨λhw=>?_,λhh=>(fe e1 e2 e3).2 (hh _ Ut)⟩;have hb:=(fe e1 e2 e3).1 hw;have WB:=F.up (i:=i) (by omega) (I' _) e4 e5;have hl:listed.getD s'.k false=true:=(by rw[e6];exact wait j (e7 rfl));have:=((h.ins u s' WB e5 hl).of_bool hb).1;intro p hp;rcases UI.1 hp with rfl|hp;exact hb;exact this p hp
 have U5:holds a g->mq (mV true heads i st0.rg (S i).sl o' g) a ρ:=by
  intro hh ex x v e hex;rw[su] at e;split at e;obtain rfl:=Oi e;exact jG;obtain rfl:=Oi e;rfl;obtain rfl:=Oi e;rfl;rename_i t;split at e;cases e;rename_i s hl;split at e
  ·rename_i hr;have hr:=Nb hr;split at e
   ·rename_i hsub;simp only at e;split at e
    ·rename_i hwt;obtain rfl:=Oi e;obtain⟨y,h1,h2⟩:=(h.ins t s (F.up (i:=i) (by omega) (I' _) hl hr) hr (wait _ hwt)).1 (λp hp=>by
      rcases UJ.1 (oa hsub p hp) with hp|hp;exact pN (hex p hp)
      ·exact hh p hp)
     rw[aW h2];exact h1
    cases e
   cases e
  rename_i hr;have hr:s.rg≠st0.rg:=λe=>(by rw[e,UN] at hr;cases hr);split at e
  ·rename_i hgn;simp only at e;split at e
   ·rename_i Xq;obtain rfl:=Oi e;obtain⟨y,h1,h2⟩:=h0.out t s (F.out i (by omega) t s hl hr) hr hgn;have V6:∀j oj,heads[j]? = some oj->oj.dst=some t->listed.getD j false=false:=λj oj hj hdj=>by
     obtain⟨e,he,hb,hon⟩:=gY (pP Xq j oj hj hdj);cases hlj:listed.getD j false with
     | false=>rfl
     | true=>
      have hjo:ops[j]? = some oj:=(by simpa using F.hd j oj hj);have:=inv.closed j oj hjo hlj e he hb;rw[hon,Zo] at this;cases this
    rw[aW ((h.out t V6).trans h2)];exact bM h.le _ _ h1
   cases e
  cases e
 have hgi:holds a g->nE r.ob:=λhh=>DT (ρ:=ρ) (λq hq s hs=>by obtain⟨s',q1,q2,q4,q3⟩:=ZI q hq;have Xt:s=s':=(by have:=F.early q1 q2 q4 (by omega);rw[hs] at this;exact Oi this);subst Xt;exact((h.ins q.1 s q1 q2 q3).of_bool (hh q hq)).2) hh VF.ob
 -- Yk is done stays done
 have hstay:∀(US:Names) (d:Nat) (x:Value),o'.dst=some d->ρ.le US->∀t s,look (S heads.length).sl t=some s->s.rg=st0.rg->listed.getD s.k false=true->mS US (a.put (some d) x) s.g s.v t:=by intro US d x hd hl t s hs hr Xg;obtain⟨g',r',-,e,-⟩:=F.own Zr hd;have U2:∀u s',look (S heads.length).sl u=some s'->listed.getD s'.k false=true->d≠u:=(by intro u s' hu hls' e2;subst e2;rw[e] at hu;obtain rfl:=Oi hu;have:listed.getD i false=true:=hls';rw[Zo] at this;cases this);have hat:holds (a.put (some d) x) s.g↔holds a s.g:=(by have hq:∀p∈s.g,d≠p.1:=λp hp=>(by obtain⟨s',q1,q2,q4,q3⟩:=F.atoms (md:=ops) (n:=heads.length) rfl s.k t s rfl hs hr p hp;exact U2 p.1 s' q1 (q3 listed inv Xg));exact⟨λhh p hp=>by rw[<-cw (hq p hp) (x:=x)];exact hh p hp,λhh p hp=>by rw[cw (hq p hp)];exact hh p hp⟩);obtain⟨h1,h2⟩:=h.ins t s hs hr Xg;have hdt:=U2 t s hs Xg;refine⟨λhh=>?_,λhh=>?_⟩;obtain⟨y,h3,h4⟩:=h1 (hat.1 hh);exact⟨y,bM hl _ _ h3,by rw[cw hdt];exact h4⟩;rw[cw hdt];exact h2 λh'=>hh (hat.2 h')
 have WO:∀j,(listed.setIfInBounds i true).getD j false=true->j=i∨listed.getD j false=true:=λj hj=>by by_cases XV:j=i;exact .inl XV;rw[getD_set_ne false (Ne.symm XV)] at hj;exact .inr hj
 have hkeep:∀j,listed.getD j false=true->(listed.setIfInBounds i true).getD j false=true:=λj hj=>getD_set_true hj;have ZU:∀j,(listed.setIfInBounds i true).getD j false=false->listed.getD j false=false:=λj hj=>by
  cases hl:listed.getD j false with
  | false=>rfl
  | true=>rw[hkeep j hl] at hj;cases hj
 have hisz:(listed.setIfInBounds i true).getD i false=true:=sW hil;have hatd:∀(d:Nat) (x:Value),o'.dst=some d->(holds (a.put (some d) x) g↔holds a g):=by intro d x hd;obtain⟨g',r',-,e,-⟩:=F.own Zr hd;have hq:∀p∈g,d≠p.1:=λp hp e2=>(by obtain⟨s',q1,q2,q4,q3⟩:=ZI p hp;rw[<-e2,e] at q1;obtain rfl:=Oi q1;exact Nat.lt_irrefl _ q4);exact⟨λhh p hp=>by rw[<-cw (hq p hp) (x:=x)];exact hh p hp,λhh p hp=>by rw[cw (hq p hp)];exact hh p hp⟩
 -- a later operation YY is done does not write Yk this one touches
 have ZW:∀j m VC,m∈R->i<j->j<heads.length->Wr S j m VC->listed.getD j false=false:=by
  intro j m VC hm XS hj h2;cases hl:listed.getD j false with
  | false=>rfl
  | true=>
   have:=F.order rfl inv XS hj (.inr ⟨by rw[VF.rds];exact tK hm,VC,h2⟩) λoj hoj e he hb=>inv.closed j oj hoj hl e he hb;rw[Zo] at this;cases this
 have hlaterW:∀j m sb VC,Wr S i m sb->i<j->j<heads.length->Wr S j m VC->listed.getD j false=false:=by
  intro j m sb VC h1 XS hj h2;cases hl:listed.getD j false with
  | false=>rfl
  | true=>
   have:=F.order rfl inv XS hj (.inl ⟨⟨sb,h1⟩,.inl ⟨VC,h2⟩⟩) λoj hoj e he hb=>inv.closed j oj hoj hl e he hb;rw[Zo] at this;cases this
 -- Yk it touches is Yk was foretold
 have hcur:∀m∈R,∀sb,look (S i).H m=some sb->c8 ρ W m sb:=by
  intro m hm sb hl;rcases F.heap i (by omega) m sb hl with ⟨q1,q2⟩|⟨j,q1,q2,q3⟩
  refine h.con m sb q1 λj sb2 hj hwj=>?_;rcases Nat.lt_trichotomy j i with hl|hl|hl;exact Uw hwj (q2 j sb2 hl);rw[hl];exact Zo;exact ZW j m sb2 hm hl hj hwj;have hlj:=F.order rfl inv q1 hi (.inl ⟨⟨sb,q2⟩,.inr ⟨by rw[VF.rds];exact tK hm,o',g,R,r,VF,hm⟩⟩) ZR;refine h.wr j m sb (by omega) hlj q2 λj' sb2 XR hj2 hwj=>?_;rcases Nat.lt_trichotomy j' i with hl|hl|hl;exact Uw hwj (q3 j' sb2 XR hl);rw[hl];exact Zo;exact ZW j' m sb2 hm hl hj2 hwj
 have hhok:VY C (restrict (S i).H R) ρ W:=⟨h.mem.hb,λm sb hm=>by obtain⟨h1,h2⟩:=jN hm;exact hcur m h1 sb h2⟩
 have hnmT:(S (i+1)).nm<=(S heads.length).nm:=F.nm (by omega) (I' _)
 -- Ye new name is free
 have hgiv:r.fr=true->¬Given heads st0 S listed (S i).nm:=by
  intro Xq hgn;have XQ:=VF.nm;rw[Xq] at XQ;have XQ:(S (i+1)).nm=(S i).nm+1:=XQ;rcases hgn with U8|⟨j,q2,q3,q4,q5⟩
  have:=F.nm (i:=0) (j:=i) (by omega) (by omega);rw[F.s0] at this;omega;rcases Nat.lt_trichotomy j i with q|q|q;have:=F.nm (i:=j+1) (j:=i) (by omega) (by omega);omega;rw[q,Zo] at q3;cases q3;have:=F.nm (i:=i+1) (j:=j) (by omega) (by omega);omega
 have Yw:r.fr=true->ρ.n (S i).nm=none∧ρ.v (S i).nm=none:=λXq=>by
  constructor
  ·cases hq:ρ.n (S i).nm with
   | none=>rfl
   | some b=>exact Uw (h.domn _ b hq) (hgiv Xq)
  cases hq:ρ.v (S i).nm with
  | none=>rfl
  | some b=>exact Uw (h.domv _ b hq) (hgiv Xq)
 -- when it is done
 have done:∀val W' US,Xh C ρ W (S i).nm (r.w.map Prod.fst) r.fr US W'->(∀n sb,r.w=some (n,sb)->c8 US W' n sb)->(holds a g->den US r.v val)->(¬holds a g->val=undef)->
   HI C nt w0 UT heads st0 S V1 a0 (listed.setIfInBounds i true) US (a.put o'.dst val) W':=by
  intro val W' US e hc hv hu;have XQ:=VF.nm;have hgm:∀m,Given heads st0 S listed m->Given heads st0 S (listed.setIfInBounds i true) m:=λm hm=>hm.imp id λ⟨j,q1,q2,q3⟩=>⟨j,q1,hkeep j q2,q3⟩
  have hgi2:r.fr=true->Given heads st0 S (listed.setIfInBounds i true) (S i).nm:=λXq=>(by rw[Xq] at XQ;exact .inr ⟨i,hi,hisz,XQ,rfl⟩);have hwsome:∀m sb,Wr S i m sb->r.w=some (m,sb):=λm sb hw=>by
   rcases VF.wr with ⟨-,-,k⟩|⟨n,VC,k1,k2,-⟩
   exact Uw hw (k m sb);obtain⟨rfl,rfl⟩:=hw.uniq k2;exact k1
  have hother:∀m sb,c8 ρ W m sb->(∀VC,¬Wr S i m VC)->c8 US W' m sb:=λm sb VU V6=>by
   refine e.cont h.mem.hb VU λhq=>?_;rcases VF.wr with ⟨k1,-⟩|⟨n,VC,k1,k2,-⟩
   rw[k1] at hq;cases hq;rw[k1] at hq;obtain rfl:=Oi hq;exact V6 VC k2
  refine⟨h.mem.T9 e (λXq=>?_) λn hn=>?_,h.le.trans e.le,λm b hm=>?_,λm b hm=>?_,λm sb hs V6=>?_,λj m sb hj hlj hwj V6=>?_,λt s hs hr Xg=>?_,λt ht=>?_,by cases o'.dst<;>simp[Act.put,h.sz],by cases o'.dst<;>exact h.df⟩;rw[Xq] at XQ;have XQ:(S (i+1)).nm=(S i).nm+1:=XQ;omega
  ·rcases VF.wr with ⟨k1,-⟩|⟨n',VC,k1,-,-,k4,-⟩
   rw[k1] at hn;cases hn;rw[k1] at hn;obtain rfl:=Oi hn;rw[<-XQ] at k4;show n'<_;omega
  ·rcases e.nn m b hm with h1|⟨rfl,h2,-⟩
   exact hgm m (h.domn m b h1);exact hgi2 h2
  ·rcases e.nv m b hm with h1|⟨rfl,h2,-⟩
   exact hgm m (h.domv m b h1);exact hgi2 h2
  refine hother m sb (h.con m sb hs λj s' hj hwj=>ZU j (V6 j s' hj hwj)) λVC hwi=>?_;have:=V6 i VC hi hwi;rw[hisz] at this;cases this;rcases WO j hlj with rfl|hl;exact hc m sb (hwsome m sb hwj);refine hother m sb (h.wr j m sb hj hl hwj λj' s' h1 h2 h3=>ZU j' (V6 j' s' h1 h2 h3)) λVC hwi=>?_;rcases Nat.lt_trichotomy j i with q|q|q;have:=V6 i VC q hi hwi;rw[hisz] at this;cases this;rw[q,Zo] at hl;cases hl;rw[hlaterW j m VC sb hwi q hj hwj] at hl;cases hl
  ·cases hd:o'.dst with
   | none=>
    rcases WO s.k Xg with e2|Xg;obtain⟨o2,g',r',q1,q2,-⟩:=F.entry hs hr;rw[e2,Zr] at q1;obtain rfl:=Oi q1;rw[hd] at q2;cases q2;obtain⟨h1,h2⟩:=h.ins t s hs hr Xg;exact⟨λhh=>let ⟨x,k1,k2⟩:=h1 hh;⟨x,bM e.le _ _ k1,k2⟩,h2⟩
   | some d=>
    rcases WO s.k Xg with e2|Xg;obtain⟨o2,g',r',q1,q2,-⟩:=F.entry hs hr;rw[e2,Zr] at q1;obtain rfl:=Oi q1;rw[hd] at q2;obtain rfl:=Oi q2;have Zc:d<a.tmps.size:=(by rw[h.sz];exact(d2 d hd).1);have Xs:=VF.sl;rw[hd,F.rg i (by omega)] at Xs;have Xt:look (S heads.length).sl d=some ⟨st0.rg,i,g,r.v⟩:=F.up (i:=i+1) (by omega) (I' _) (by rw[Xs];exact aj _ _ _) rfl;rw[hs] at Xt;obtain rfl:=Oi Xt;exact⟨λhh=>⟨val,hv ((hatd d val hd).1 hh),gM Zc⟩,λhn=>by rw[gM Zc,hu λhh=>hn ((hatd d val hd).2 hh)]⟩;exact hstay US d val hd e.le t s hs hr Xg
  cases hd:o'.dst with
  | none=>exact h.out t λj oj h1 h2=>ZU j (ht j oj h1 h2)
  | some d=>
   rw[cw];exact h.out t λj oj h1 h2=>ZU j (ht j oj h1 h2);rintro rfl;have:=ht i o' Zr hd;rw[hisz] at this;cases this
 split
 ·rename_i hww;have hh:=hw.1 hww;refine EF (nm:=(S i).nm) hhok Yw (U5 hh) d1 hD (hgi hh) λval W' hp=>?_;obtain⟨US,p1,p2,p3⟩:=hp;exact hK _ W' ⟨US,done val W' US p1 p2 (λ_=>p3) λhn=>Uw hh hn⟩
 rename_i hww;have hn:¬holds a g:=λhh=>hww (hw.2 hh);have hnone:r.w=none∧r.fr=false:=by
  rcases vG VF.w with h1|⟨n,sb,-,rfl,-⟩
  exact h1;exact Uw (holds_nil a) hn
 have e:Xh C ρ W (S i).nm (r.w.map Prod.fst) r.fr ρ W:=by rw[hnone.1,hnone.2];exact Xh.uS h.mem.hb (Gr.refl W)
 exact hK _ W ⟨ρ,done undef W ρ e (λn sb h=>by rw[hnone.1] at h;cases h) (λhh=>Uw hh hn) λ_=>rfl⟩
theorem HI.later{a0 a:Act}{W:World}{heads:List Oper}{st0:St}{S:Nat->St}{listed:Array Bool}{ρ:Names}{W2:World}(h:HI C nt w0 UT heads st0 S V1 a0 listed ρ a W)(r:Rv W W2):HI C nt w0 UT heads st0 S V1 a0 listed ρ a W2:=by
 have g:Gr W W2:=⟨r.os,r.tape,r.output,r.size,λb hb=>r.same hb⟩
 have e:=Xh.uS (nm:=0) h.mem.hb g;exact⟨h.mem.gr g,h.le,h.domn,h.domv,λm sb h1 h2=>e.cont h.mem.hb (h.con m sb h1 h2) (by simp),λi m sb h1 h2 h3 h4=>e.cont h.mem.hb (h.wr i m sb h1 h2 h3 h4) (by simp),h.ins,h.out,h.sz,h.df⟩
theorem DM(F:cJ Γ nt ops.toList heads st0 S){n:Nat}(hn:heads.length=n)(h0:RI C nt w0 UT st0 V1 a0 W1)
  (listed:Array Bool) (a:Act) (W:World) (i:Nat) (o:Oper) (inv:HeadInv .any ops n listed) (hI:∃ρ,HI C nt w0 UT heads st0 S V1 a0 listed ρ a W) (hi:i<n) (ho:ops[i]? = some o) (Zr:heads[i]? = some o) (Zo:listed.getD i false=false)
  (Va:∀e∈o.after,Region.binds .any e=true->listed.getD e.on false=true) (K:Act->World->Prop) (hK:∀a' W',(∃ρ,HI C nt w0 UT heads st0 S V1 a0 (listed.setIfInBounds i true) ρ a' W')->K a' W') :
  if Region.wanted o (yielded ops a.tmps)=true then OpJ C.P C.co o a W K else K (a.put o.dst undef) W:=by
 have h1:=u9 F hn h0 listed a W i o inv hI hi ho Zr Zo Va K hK;split;rename_i hw;refine⟨Nd F hn h0 listed a W i o inv hI hi ho Zr Zo Va hw,λW2 r=>?_⟩;obtain⟨ρ,hI⟩:=hI;have h2:=u9 F hn h0 listed a W2 i o inv ⟨ρ,hI.later r⟩ hi ho Zr Zo Va K hK;rw[UD hw] at h2;exact h2;rename_i hw;rw[UC hw] at h1;exact h1
end
end Go.Proofs.YtgigkennhdolpaaGreatDoor
namespace Go.Proofs.YtgigkennhdolpaaGreatDoor
open Go.Conc
section
variable {P:Program}{main:Bool}{b:Frame}{a:Act}{k:List Item}{cs:List Frame}{w:World}
theorem AV:stepG P main (G (b.atR a (.code .skip::k)) cs) w=.go (G (b.atR a k) cs) w:=by simp[G,stepG,stepG.exec,Frame.atR]
theorem ua{id:Nat} : stepG P main (G (b.atR a (.inBlock id::k)) cs) w=.go (G (b.atR a k) cs) w:=by simp[G,stepG,stepG.exec,Frame.atR]
theorem EW{x y:Code} : stepG P main (G (b.atR a (.code (.seq x y)::k)) cs) w=.go (G (b.atR a (.code x::.code y::k)) cs) w:=by simp[G,stepG,stepG.exec,Frame.atR]
theorem AZ{c:Operand}{x y:Code}{t:Bool}(h:a.eval c=.bool t) :
  stepG P main (G (b.atR a (.code (.cond c x y)::k)) cs) w=.go (G (b.atR a (.code (if t then x else y)::k)) cs) w:=by
 have h':=congrFun (Frame.eval_atR b a (.code (.cond c x y)::k)) c;rw[h] at h';simp only[Frame.atR] at h';simp[G,stepG,stepG.exec,Frame.atR,h']
theorem xR{id:Nat}{c:Code} : stepG P main (G (b.atR a (.code (.block id c)::k)) cs) w=.go (G (b.atR a (.code c::.inBlock id::k)) cs) w:=by simp[G,stepG,stepG.exec,Frame.atR]
theorem AX{c:Code} : stepG P main (G (b.atR a (.code (.loop c)::k)) cs) w=.go (G (b.atR a (.code c::.inLoop c::k)) cs) w:=by simp[G,stepG,stepG.exec,Frame.atR]
theorem vP{c:Code} : stepG P main (G (b.atR a (.inLoop c::k)) cs) w=.go (G (b.atR a (.code c::.inLoop c::k)) cs) w:=by simp[G,stepG,stepG.exec,Frame.atR]
theorem AY{id:Nat}{k':List Item}(h:exitTo id k=some k'):stepG P main (G (b.atR a (.code (.exit id)::k)) cs) w=.go (G (b.atR a k') cs) w:=by simp[G,stepG,stepG.exec,Frame.atR,h]
theorem vO{id:Nat}{ops:Array Oper} : stepG P main (G (b.atR a (.code (.region id ops false)::k)) cs) w=.go (G (b.atR a (.inRegion ops (List.range ops.size)::k)) cs) w:=by simp[G,stepG,stepG.exec,Frame.atR]
theorem pe{ops:Array Oper} : stepG P main (G (b.atR a (.inRegion ops []::k)) cs) w=.go (G (b.atR a k) cs) w:=by simp[G,stepG,stepG.exec,Frame.atR]
theorem rW{ops:Array Oper}{i:Nat}{rest:List Nat}{o:Oper}(ho:ops[i]? = some o)(hw:Region.wanted o (yielded ops a.tmps)=false) :
  stepG P main (G (b.atR a (.inRegion ops (i::rest)::k)) cs) w=.go (G (b.atR (a.put o.dst undef) (.inRegion ops rest::k)) cs) w:=by
 have V8:(b.atR a (.inRegion ops (i::rest)::k)).finish undef=b.atR (a.put o.dst undef) (.inRegion ops rest::k):=by rw[Frame.finish_atR,ho];rfl
 rw[<-V8];simp[G,stepG,stepG.exec,Frame.atR,ho,hw]
theorem kC{ops:Array Oper}{i:Nat}{rest:List Nat}{o:Oper}(ho:ops[i]? = some o)(hw:Region.wanted o (yielded ops a.tmps)=true)(hd:∀c,o.op≠.defer c) :
  stepG P main (G (b.atR a (.inRegion ops (i::rest)::k)) cs) w=stepG.apply P true (b.atR a (.inRegion ops (i::rest)::k)) cs none (execOp a.eval o) w:=by
 have he:=Frame.eval_atR b a (.inRegion ops (i::rest)::k);have e:=Oper.semAt_eq b.roundOf a.eval o hd;rw[<-e];simp only[Frame.atR] at he;simp only[G,stepG,stepG.exec,stepG.oper,Frame.oper?,Frame.atR,ho,hw,he,Option.map_some,Option.getD_some,if_true,Oper.semAt];cases b.roundOf<;>cases o.op<;>rfl
theorem xO{ops:Array Oper}{i:Nat}{rest:List Nat}{o:Oper}{v:Value}{w':World}(ho:ops[i]? = some o)(hw:Region.wanted o (yielded ops a.tmps)=true)
  (hk:b.kind≠.early) (hd:∀c,o.op≠.defer c) (hr:(execOp a.eval o).run P w=.ok (.value v) w') :
  stepG P main (G (b.atR a (.inRegion ops (i::rest)::k)) cs) w=.go (G (b.atR (a.put o.dst v) (.inRegion ops rest::k)) cs) w' (listed P b.fn a o w):=by
 have V8:(b.atR a (.inRegion ops (i::rest)::k)).finish v=b.atR (a.put o.dst v) (.inRegion ops rest::k):=by rw[Frame.finish_atR,ho];rfl
 have WL:(b.kind==CallKind.early)=false:=by simpa using hk
 rw[kC ho hw hd,<-V8];simp[stepG.apply,hr,G,Frame.atR,WL,GStep.after,listed]
theorem AW{ops:Array Oper}{i:Nat}{rest:List Nat}{o:Oper}{w':World}(ho:ops[i]? = some o)(hw:Region.wanted o (yielded ops a.tmps)=true)
  (hk:b.kind≠.early) (hd:∀c,o.op≠.defer c) (hr:(execOp a.eval o).run P w=.ok .skip w') :
  stepG P main (G (b.atR a (.inRegion ops (i::rest)::k)) cs) w=.go (G (b.atR (a.put o.dst undef) (.inRegion ops rest::k)) cs) w' (listed P b.fn a o w):=by
 have V8:(b.atR a (.inRegion ops (i::rest)::k)).finish undef=b.atR (a.put o.dst undef) (.inRegion ops rest::k):=by rw[Frame.finish_atR,ho];rfl
 have WL:(b.kind==CallKind.early)=false:=by simpa using hk
 rw[kC ho hw hd,<-V8];simp[stepG.apply,hr,G,Frame.atR,WL,GStep.after,listed]
theorem xQ{ops:Array Oper}{i:Nat}{rest:List Nat}{o:Oper}{f:FuncId}{args:Array Value}{w':World}(ho:ops[i]? = some o)(hw:Region.wanted o (yielded ops a.tmps)=true)
  (hk:b.kind≠.early) (hd:∀c,o.op≠.defer c) (hr:(execOp a.eval o).run P w=.ok (.enter f args) w') :
  stepG P main (G (b.atR a (.inRegion ops (i::rest)::k)) cs) w=.go (G (Frame.enter P f args .normal) (b.atR a (.inRegion ops (i::rest)::k)::cs)) w' (listed P b.fn a o w):=by
 have WL:(b.kind==CallKind.early)=false:=by simpa using hk
 rw[kC ho hw hd];simp[stepG.apply,hr,G,Frame.atR,WL,GStep.after,listed]
theorem xP{ops:Array Oper}{i:Nat}{rest:List Nat}{o:Oper}{l:Nat}{fn:FuncId}{tmps:Array Value}{VM body:Code}{w':World}(ho:ops[i]? = some o)(hw:Region.wanted o (yielded ops a.tmps)=true)
  (hk:b.kind≠.early) (hd:∀c,o.op≠.defer c) (hr:(execOp a.eval o).run P w=.ok (.round l fn tmps VM body) w') :
  stepG P main (G (b.atR a (.inRegion ops (i::rest)::k)) cs) w=.go (G (Frame.round l fn tmps VM body .normal) (b.atR a (.inRegion ops (i::rest)::k)::cs)) w' (listed P b.fn a o w):=by
 have WL:(b.kind==CallKind.early)=false:=by simpa using hk
 rw[kC ho hw hd];simp[stepG.apply,hr,G,Frame.atR,WL,GStep.after,listed]
end
theorem wh{P:Program}{co:Bool}{o:Oper}{a:Act}{w:World}{K:Act->World->Prop}(h:dB P co o a w K):∀c,o.op≠.defer c:=by
 intro c e;unfold dB at h;have key:∀r,(execOp a.eval o).run P w=r->¬xI P co o a K r:=by
  intro r hr;have e2:execOp a.eval o=(resolve a.eval c o.type >>= λd=>pure (Next.defer d)):=(by unfold execOp;rw[e]);rw[e2,UQ] at hr;subst hr;cases (resolve a.eval c o.type).run P w with
  | halt x w'=>exact λh=>h
  | ok x w'=>exact λh=>h
 exact key _ rfl h
def Um(E:Goroutine->World->Prop)(b:Frame)(k:List Item)(cs:List Frame):Exit->Act->World->Prop
 | .normal,a,w=>E (G (b.atR a k) cs) w
 | .exit id,a,w=>∃k',exitTo id k=some k'∧E (G (b.atR a k') cs) w
 | .ret,a,w=>b.roundOf=none∧∀todo,E (G {b.atR a todo with mode:=.returning} cs) w
 | _,_,_=>True
def wpR(P:Program)(co:Bool)(c:Code)(Q:Exit->Act->World->Prop)(a:Act)(W:World):Prop:=
 ∀E,Closed P co E->∀(b:Frame) (k:List Item) (cs:List Frame),b.kind≠.early->(∀e a' w',Q e a' w'->MA e∧Um E b k cs e a' w')->E (G (b.atR a (.code c::k)) cs) W
section
variable {P:Program}{co:Bool}{Q Q':Exit->Act->World->Prop}{a:Act}{W:World}
theorem wpR.toJ{c:Code}(h:wpR P co c Q a W):wpJ P co c Q a W:=by
 intro E hE b k cs h1 h2 h3;have:=h E hE b k cs h1 λe a' w' hq=>⟨(h3 e a' w' hq).1,by
  have h4:=(h3 e a' w' hq).2;cases e with
  | normal=>show E _ _;rw[Frame.atR_of_none h2];exact h4
  | exit id=>obtain⟨k',h5,h6⟩:=h4;refine⟨k',h5,?_⟩;rw[Frame.atR_of_none h2];exact h6
  | ret=>refine⟨h2,λtodo=>?_⟩;rw[Frame.atR_of_none h2];exact h4 todo
  | goto l=>trivial
  | panic c=>trivial
  | outgrown=>trivial⟩
 rwa [Frame.atR_of_none h2] at this
theorem cR{c:Code}(h:wpR P co c Q a W)(k:∀e a w,Q e a w->Q' e a w):wpR P co c Q' a W:=λE hE b t cs h1 h3=>h E hE b t cs h1 λe a' w' hq=>h3 e a' w' (k e a' w' hq)
theorem IN{E:Goroutine->World->Prop}(hE:Closed P co E){b:Frame}{k:List Item}{cs:List Frame}(hk:b.kind≠.early){ops:Array Oper}{i:Nat}{rest:List Nat}{o:Oper}(ho:ops[i]? = some o)(hw:Region.wanted o (yielded ops a.tmps)=true)
  {K:Act->World->Prop} (h:OpJ P co o a W K) (hK:∀a' w',K a' w'->E (G (b.atR a' (.inRegion ops rest::k)) cs) w'):E (G (b.atR a (.inRegion ops (i::rest)::k)) cs) W:=by
 refine hE.step rfl λW1 h1=>?_;have hu:=h.2 W1 h1;have hd:=wh hu;unfold dB at hu;cases hr:(execOp a.eval o).run P W1 with
 | halt x w'=>rw[hr] at hu;exact hu.elim
 | ok x w'=>
  rw[hr] at hu;cases x with
  | value v=>
   refine⟨_,w',λmain S R w hv=>?_,hK _ _ hu⟩;obtain⟨u,k1,k2,kk,k3⟩:=cb #[] h.1 hv hr;refine⟨u,_,xO ho hw hk hd k1,k2,kk,λe he=>?_⟩;rcases k3 e (mem_listed he) with q|q;simp at q;exact q
  | skip=>
   refine⟨_,w',λmain S R w hv=>?_,hK _ _ hu⟩;obtain⟨u,k1,k2,kk,k3⟩:=cb #[] h.1 hv hr;refine⟨u,_,AW ho hw hk hd k1,k2,kk,λe he=>?_⟩;rcases k3 e (mem_listed he) with q|q;simp at q;exact q
  | enter f args=>
   refine⟨G (Frame.enter P f args .normal) (b.atR a (.inRegion ops (i::rest)::k)::cs),w',λmain S R w hv=>?_,?_⟩;obtain⟨u,k1,k2,kk,k3⟩:=cb #[] h.1 hv hr;refine⟨u,_,xQ ho hw hk hd k1,k2,kk,λe he=>?_⟩;rcases k3 e (mem_listed he) with q|q;simp at q;exact q;have hu:bx P co f args w' _:=hu;refine hu E hE _ λe w2 fr hR _ hl=>?_;cases e with
   | panicked c=>exact hR.elim
   | outgrown=>exact hR.elim
   | returned v=>
    have hR:K (a.put o.dst v) w2:=hR;obtain⟨l1,l2,l3,fn,l4,l5⟩:=hl;refine hE.step rfl λW3 h3=>⟨G (b.atR (a.put o.dst v) (.inRegion ops rest::k)) cs,W3,λmain S R w hv=>?_,hE.mono (hK _ _ hR) h3⟩
    have e1:=ox h3 hv (dt fn fr.tmps) l5;obtain⟨u,k1,k2,kk,k3⟩:=cb #[] (dt fn fr.tmps).ns hv e1;refine⟨u,seen P fr.fn ((results fn fr.tmps).events P w #[]),?_,k2,kk,λe he=>?_⟩;have V8:(b.atR a (.inRegion ops (i::rest)::k)).finish v=b.atR (a.put o.dst v) (.inRegion ops rest::k):=(by rw[Frame.finish_atR,ho];rfl);rw[<-V8];obtain⟨ffn,Z3,Z2,XY,Z4,Z5,YJ⟩:=fr;simp only at l1 l2 l3 l4 k1;subst l1 l2 l3;simp[G,stepG,unwind,doReturn,l4,k1,GStep.after];rcases k3 e (mem_seen he) with q|q;simp at q;exact q
  | round l fn tmps VM body=>
   refine⟨G (Frame.round l fn tmps VM body .normal) (b.atR a (.inRegion ops (i::rest)::k)::cs),w',λmain S R w hv=>?_,?_⟩;obtain⟨u,k1,k2,kk,k3⟩:=cb #[] h.1 hv hr;refine⟨u,_,xP ho hw hk hd k1,k2,kk,λe he=>?_⟩;rcases k3 e (mem_listed he) with q|q;simp at q;exact q;have hu:jP P co l fn tmps VM body w' _:=hu;refine hu E hE _ _ λv w2 hR=>?_;have V8:(b.atR a (.inRegion ops (i::rest)::k)).finish v=b.atR (a.put o.dst v) (.inRegion ops rest::k):=(by rw[Frame.finish_atR,ho];rfl);rw[V8];exact hK _ _ hR
  | _=>exact hu.elim
theorem nF{E:Goroutine->World->Prop}(hE:Closed P co E){b:Frame}{k:List Item}{cs:List Frame}(hk:b.kind≠.early){ops:Array Oper}(hQ:∀a' w',Q .normal a' w'->E (G (b.atR a' k) cs) w') :
  ∀(l:List Nat) (a:Act) (W:World),eT P co ops Q l a W->E (G (b.atR a (.inRegion ops l::k)) cs) W
 | [],a,W,h=>hE.ck rfl (λ_ _=>pe) (hQ a W h)
 | i::rest,a,W,h=>by
  have ih:=nF (ops:=ops) hE hk hQ rest;cases ho:ops[i]? with
  | none=>
   simp only[eT,ho] at h;refine hE.ck rfl (λmain w=>?_) (ih a W h);have V8:(b.atR a (.inRegion ops (i::rest)::k)).finish undef=b.atR a (.inRegion ops rest::k):=(by rw[Frame.finish_atR,ho];rfl);rw[<-V8];simp[G,stepG,stepG.exec,Frame.atR,ho]
  | some o=>
  simp only[eT,ho] at h;split at h;rename_i hw;exact IN hE hk ho hw h λa' w' h'=>ih a' w' h';rename_i hw;exact hE.ck rfl (λ_ _=>rW ho (by simpa using hw)) (ih _ _ h)
theorem lj{id:Nat}{ops:Array Oper}(h:cz P co ops Q ops.toList a W):wpR P co (.region id ops false) Q a W:=by
 intro E hE b k cs h1 h3;refine hE.ck rfl (λ_ _=>vO) ?_;have h:=qj ops.toList 0 (λj=>by simp) a W h;have e:List.range' 0 ops.toList.length=List.range ops.size:=by rw[List.range_eq_range'];simp
 rw[e] at h;exact nF hE h1 (λa' w' Y4=>(h3 _ _ _ Y4).2) _ a W h
theorem lC{id:Nat}{ops:Array Oper}(hm:P.follows .mixedOrders=true)(h:∀W1,Rv W W1->lF P co .any ops Q ops.size (Array.replicate ops.size false) a W1):wpR P co (.region id ops true) Q a W:=by
 intro E hE b k cs h1 h3;refine hE.step rfl λW1 r1=>?_;obtain⟨t,ht⟩:∃t,t=(Question.order b.fn id).cut (W1.tape W1.drawn (.order b.fn id)):=⟨_,rfl⟩
 refine⟨G (b.atR a (.inRegion ops (Region.schedule (P.follows .mixedOrders) ops t)::k)) cs,W1.drew,λmain S R w hv=>⟨w.drew,#[],?_,hv.drew,⟨I' _,λ_ _=>rfl,rfl,rfl,rfl⟩,λe he=>by simp at he⟩,?_⟩;have hc:(choose (.order b.fn id)).run P w=.ok t w.drew:=(by rw[ht,<-hv.tape,<-hv.drawn];rfl);generalize hqq:choose (.order b.fn id)=qq at hc;simp[G,stepG,stepG.exec,Frame.atR,hqq,hc];refine nF hE h1 (λa' w' Y4=>(h3 _ _ _ Y4).2) _ a _ ?_;simp only[Region.schedule,hm,Bool.true_or,if_true];exact nX ops.size t _ a _ (h _ (r1.trans (Rv.drew W1)))
theorem nU(h:Q .normal a W):wpR P co .skip Q a W:=λ_ hE _ _ _ _ h3=>hE.ck rfl (λ_ _=>AV) (h3 _ _ _ h).2
theorem fH{x y:Code}(h:wpR P co x (Exit.then (wpR P co y Q) Q) a W):wpR P co (.seq x y) Q a W:=by
 intro E hE b k cs h1 h3;refine hE.ck rfl (λ_ _=>EW) (h E hE b (.code y::k) cs h1 λe a' w' hq=>?_);cases e with
 | normal=>exact⟨trivial,hq E hE b k cs h1 h3⟩
 | exit id=>
  obtain⟨-,k',e1,e2⟩:=h3 (.exit id) _ _ hq;exact⟨trivial,k',by simpa[exitTo] using e1,e2⟩
 | ret=>exact h3 .ret _ _ hq
 | goto l=>exact h3 (.goto l) _ _ hq
 | panic c=>exact h3 (.panic c) _ _ hq
 | outgrown=>exact h3 .outgrown _ _ hq
theorem nV{c:Operand}{x y:Code}{t:Bool}(hc:a.eval c=.bool t)(h:wpR P co (if t then x else y) Q a W):wpR P co (.cond c x y) Q a W:=
 λE hE b k cs h1 h3=>hE.ck rfl (λ_ _=>AZ hc) (h E hE b k cs h1 h3)
theorem jL{c:Operand}{x y:Code}(hc:a.eval c=.bool true)(h:wpR P co x Q a W):wpR P co (.cond c x y) Q a W:=nV hc h
theorem gJ{c:Operand}{x y:Code}(hc:a.eval c=.bool false)(h:wpR P co y Q a W):wpR P co (.cond c x y) Q a W:=nV hc h
theorem lD{c:Operand}{x y:Code}{t:Bool}(hc:a.eval c=.bool t)(h1:t=true->wpR P co x Q a W)(h2:t=false->wpR P co y Q a W):wpR P co (.cond c x y) Q a W:=by
 cases t with
 | true=>exact nV hc (h1 rfl)
 | false=>exact nV hc (h2 rfl)
theorem o4{id:Nat}{c:Code}(h:wpR P co c (Exit.inBlock id Q) a W):wpR P co (.block id c) Q a W:=by
 intro E hE b k cs h1 h3;refine hE.ck rfl (λ_ _=>xR) (h E hE b (.inBlock id::k) cs h1 λe a' w' hq=>?_);cases e with
 | normal=>exact⟨trivial,hE.ck rfl (λ_ _=>ua) (h3 .normal _ _ hq).2⟩
 | exit i=>
  have hq2:if i=id then Q .normal a' w' else Q (.exit i) a' w':=hq;refine⟨trivial,?_⟩;by_cases e:i=id;rw[UD e] at hq2;subst e;exact⟨k,by simp[exitTo],(h3 .normal _ _ hq2).2⟩;rw[UC e] at hq2;obtain⟨-,k',e1,e2⟩:=h3 (.exit i) _ _ hq2;exact⟨k',by simpa[exitTo,e,Ne.symm e] using e1,e2⟩
 | ret=>exact h3 .ret _ _ hq
 | goto l=>exact h3 (.goto l) _ _ hq
 | panic c=>exact h3 (.panic c) _ _ hq
 | outgrown=>exact h3 .outgrown _ _ hq
theorem xE{id:Nat}(h:Q (.exit id) a W):wpR P co (.exit id) Q a W:=λE hE b k cs h1 h3=>by obtain⟨-,k',e1,e2⟩:=h3 _ _ _ h;exact hE.ck rfl (λ_ _=>AY e1) e2
theorem LD(h:Q .ret a W):wpR P co .ret Q a W:=λE hE b k cs h1 h3=>by obtain⟨-,h2,h4⟩:=h3 .ret _ _ h;exact hE.ck rfl (λmain w=>by simp[G,stepG,stepG.exec,Frame.atR,h2]) (h4 (.code .ret::k))
theorem rL{c:Code}(I:Nat->Act->World->Prop)(n0:Nat)(h0:I n0 a W)(round:∀n a w,I n a w->wpR P co c (Exit.then (λa' w'=>∃m,m<n∧I m a' w') Q) a w):wpR P co (.loop c) Q a W:=by
 intro E hE b k cs h1 h3;have key:∀n a w,I n a w->E (G (b.atR a (.code c::.inLoop c::k)) cs) w:=by
  intro n
  induction n using Nat.strongRecOn with
  | _ n ih=>
   intro a w hI;refine round n a w hI E hE b (.inLoop c::k) cs h1 λe a' w' hq=>?_;cases e with
   | normal=>
    obtain⟨m,hm,hI'⟩:=hq;exact⟨trivial,hE.ck rfl (λ_ _=>vP) (ih m hm a' w' hI')⟩
   | exit id=>
    obtain⟨-,k',e1,e2⟩:=h3 (.exit id) _ _ hq;exact⟨trivial,k',by simpa[exitTo] using e1,e2⟩
   | ret=>exact h3 .ret _ _ hq
   | goto l=>exact h3 (.goto l) _ _ hq
   | panic c=>exact h3 (.panic c) _ _ hq
   | outgrown=>exact h3 .outgrown _ _ hq
 exact hE.ck rfl (λ_ _=>AX) (key n0 a W h0)
end
end Go.Proofs.YtgigkennhdolpaaGreatDoor
