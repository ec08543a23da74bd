/- A symbolic executor with lists, 15. -/
import Derived.Test.YtgigkennhdolpaaGreatDoorM12
import Derived.Test.YtgigkennhdolpaaGreatDoorM2
import Derived.AtR
namespace Go.Proofs.YtgigkennhdolpaaGreatDoor
open Go.RowKit
section
variable {PP:Program}{C:Cx PP}{Γ:List (UO C)}{nt:Nat}{ops:Array Oper}{heads:List Oper}{st0:St}{S:Nat->St}{w0:World}{UM:Names}
theorem sJ{listed:Array Bool}{i:Nat}(h:i<listed.size):(listed.setIfInBounds i true).getD i false=true:=by simp[h]
theorem Mem.T1{w0 W W':World}{UM ρ UL:Names}{nm nT:Nat}{wn:Option Nat}{fr:Bool}(h:Mem C w0 UM nT ρ W)(e:WZ C ρ W nm wn fr UL W')(hf:fr=true->nm<nT)(hw:∀n,wn=some n->n<nT):Mem C w0 UM nT UL W':=by
 have e':WZ C ρ W nT wn fr UL W'->Mem C w0 UM (k9 fr nT) UL W':=λe'=>h.eff e' λn hn=>by have:=hw n hn;cases fr<;>simp only[k9]<;>omega
 have hs:=h.keep.size;have V7:∀n b,bT UL n b->bT ρ n b∨W.heap.size<=b:=λn b ho=>by
  rcases ho with ho|⟨ep,l,o,h1,h2,h3,h4⟩|⟨i,l,o,h1,h3,h4⟩
  ·rcases e.nn n b ho with h1|⟨-,-,-,h1⟩
   exact .inl (.inl h1);exact .inr h1
  ·rcases e.nv ep l h1 with k1|⟨-,-,k2,k3⟩
   exact .inl (.inr (.inl ⟨ep,l,o,k1,h2,h3,h4⟩));rw[<-h2];exact k3 b o h4 h3
  exact .inl (.inr (.inr ⟨i,l,o,(e.nk n i).symm.trans h1,h3,h4⟩))
 refine⟨e.hb,λn b hn=>?_,λep l hl=>?_,λm i l hl=>h.domk m i l ((e.nk m i).symm.trans hl),h.le.trans e.le,λn b hn=>?_,λb i c hz=>?_,⟨e.os.trans h.keep.os,e.tape.trans h.keep.tape,e.output.trans h.keep.output,Nat.le_trans hs e.size,λb hb hn=>?_⟩⟩
 ·rcases e.nn n b hn with h1|⟨rfl,h2,-,-⟩
  exact h.dom n b h1;exact hf h2
 ·rcases e.nv ep l hl with h1|⟨rfl,h2,h3,-⟩
  exact h.domv ep l h1;exact⟨hf h2,hw _ h3⟩
 rcases V7 n b hn with h1|h1;exact h.old n b h1;exact .inr (by omega);rcases e.nz b i c hz with h1|h1;exact h.zold b i c h1;exact .inr (.inl (by omega));refine(e.block b (by omega) λn _ ho=>?_).trans (h.keep.block b hb hn);rcases h.old n b ho with h1|h1;exact hn h1;omega
theorem Mem.up{w0 W:World}{UM ρ:Names}{n m:Nat}(h:Mem C w0 UM n ρ W)(hn:n<=m):Mem C w0 UM m ρ W:=
 ⟨h.hb,λk b hk=>Nat.lt_of_lt_of_le (h.dom k b hk) hn,λe l hl=>⟨Nat.lt_of_lt_of_le (h.domv e l hl).1 hn,Nat.lt_of_lt_of_le (h.domv e l hl).2 hn⟩,λm i l hl=>Nat.lt_of_lt_of_le (h.domk m i l hl) hn,h.le,h.old,h.zold,h.keep⟩
def Given(heads:List Oper)(st0:St)(S:Nat->St)(listed:Array Bool)(m:Nat):Prop:=m<st0.nm∨∃i,i<heads.length∧listed.getD i false=true∧(S (i+1)).nm=(S i).nm+1∧(S i).nm=m
structure HI (C:Cx PP) (nt:Nat) (w0:World) (UM:Names) (heads:List Oper) (st0:St) (S:Nat->St) (VU:Names) (a0:Act) (listed:Array Bool) (ρ:Names) (a:Act) (W:World):Prop where
 mem:Mem C w0 UM (S heads.length).nm ρ W
 le:VU.le ρ
 domn:∀m b,ρ.n m=some b->Given heads st0 S listed m
 domv:∀m b,ρ.v m=some b->Given heads st0 S listed m
 con:∀m sb,look st0.H m=some sb->(∀i Vu,i<heads.length->Wr S i m Vu->listed.getD i false=false)->cS ρ W m sb
 wr:∀i m sb,i<heads.length->listed.getD i false=true->Wr S i m sb->(∀j Vu,i<j->j<heads.length->Wr S j m Vu->listed.getD j false=false)->cS ρ W m sb
 ins:∀t s,look (S heads.length).sl t=some s->s.rg=st0.rg->listed.getD s.k false=true->mG ρ a s.g s.v t
 out:∀t,(∀j oj,heads[j]? = some oj->oj.dst=some t->listed.getD j false=false)->a.tmps[t]? = a0.tmps[t]?
 sz:a.tmps.size=nt
 df:a.defers=UM.d
variable {VU:Names}{a0:Act}{W1:World}
theorem Mr(F:cH Γ nt ops.toList heads st0 S){n:Nat}(hn:heads.length=n)(h0:RI C nt w0 UM st0 VU a0 W1)
  (listed:Array Bool) (a:Act) (W:World) (i:Nat) (o:Oper) (inv:HeadInv .any ops n listed) (hI:∃ρ,HI C nt w0 UM heads st0 S VU a0 listed ρ a W) (hi:i<n) (ho:ops[i]? = some o) (Zk:heads[i]? = some o) (Zi:listed.getD i false=false)
  (U0:∀e∈o.after,Region.binds .any e=true->listed.getD e.on false=true) :
  Region.wanted o (yielded ops a.tmps)=true->NS C.P (execOp a.eval o):=by
 obtain⟨ρ,h⟩:=hI;subst hn;have hil:i<listed.size:=by rw[inv.size];exact(E'.1 ho).1
 obtain⟨o',g,R,r,Vr⟩:=F.one hi;obtain rfl:o'=o:=by have:=Vr.at_;rw[Zk] at this;exact(Oi this).symm
 have hg:=Vr.gd;have hD:=Vr.d;have hrdl:=Vr.rd;rw[F.rg i (by omega)] at hg hD hrdl;obtain⟨d1,d2⟩:=kR Vr.dst;have ZG:∀oo,ops[i]? = some oo->∀e∈oo.after,Region.binds .any e=true->listed.getD e.on false=true:=λoo Z3=>by rw[ho] at Z3;obtain rfl:=Oi Z3;exact U0
 have wait:∀j,gE o' j=true->listed.getD j false=true:=λj hj=>by obtain⟨e,he,hb,hon⟩:=gu hj;rw[<-hon];exact U0 e he hb
 -- X5 guards' cA
 have Zz:∀p∈g,∃s',look (S heads.length).sl p.1=some s'∧s'.rg=st0.rg∧s'.k<i∧listed.getD s'.k false=true:=by
  rcases gC hg with ⟨-,rfl⟩|⟨j,U',oj,u,s',e1,e2,e3,e4,e5,e6,rfl,e7⟩
  intro p hp;cases hp;have Wp:=F.up (i:=i) (by omega) (I' _) e4 e5;have hl:listed.getD s'.k false=true:=(by rw[e6];exact wait j (e7 rfl));intro p hp;rcases UB.1 hp with rfl|hp;exact⟨s',Wp,e5,(F.ins _ (by omega) u s' e4 e5).1,hl⟩;obtain⟨s2,q1,q2,q4,q3⟩:=F.atoms rfl s'.k u s' rfl Wp e5 p hp;exact⟨s2,q1,q2,by have:=(F.ins _ (by omega) u s' e4 e5).1;omega,q3 listed inv hl⟩
 have hw:Region.wanted o' (yielded ops a.tmps)=true↔holds a g:=by
  rcases gC hg with ⟨h1,rfl⟩|⟨j,U',oj,u,s',e1,e2,e3,e4,e5,e6,rfl,e7⟩
  exact⟨λ_=>holds_nil a,λ_=>dT h1⟩;refine⟨λhw=>?_,λhh=>(eN e1 e2 e3).2 (hh _ Um)⟩;have hb:=(eN e1 e2 e3).1 hw;have Wp:=F.up (i:=i) (by omega) (I' _) e4 e5;have hl:listed.getD s'.k false=true:=(by rw[e6];exact wait j (e7 rfl));have:=((h.ins u s' Wp e5 hl).of_bool hb).1;intro p hp;rcases UB.1 hp with rfl|hp;exact hb;exact this p hp
 have UQ:holds a g->lh (mI true heads i st0.rg (S i).sl o' g) a ρ:=by
  intro hh ex x v e hex;rw[rW] at e;split at e;obtain rfl:=Oi e;exact jk;obtain rfl:=Oi e;rfl;obtain rfl:=Oi e;rfl;rename_i t;split at e;cases e;rename_i s hl;split at e
  ·rename_i hr;have hr:=Nb hr;split at e
   ·rename_i hsub;simp only at e;split at e
    ·rename_i hwt;obtain rfl:=Oi e;obtain⟨y,h1,h2⟩:=(h.ins t s (F.up (i:=i) (by omega) (I' _) hl hr) hr (wait _ hwt)).1 (λp hp=>by
      rcases UC.1 (n7 hsub p hp) with hp|hp;exact pt (hex p hp)
      ·exact hh p hp)
     rw[aU h2];exact h1
    cases e
   cases e
  rename_i hr;have hr:s.rg≠st0.rg:=λe=>(by rw[e,UG] at hr;cases hr);split at e
  ·rename_i hgn;simp only at e;split at e
   ·rename_i WX;obtain rfl:=Oi e;obtain⟨y,h1,h2⟩:=h0.out t s (F.out i (by omega) t s hl hr) hr hgn;have V0:∀j oj,heads[j]? = some oj->oj.dst=some t->listed.getD j false=false:=λj oj hj hdj=>by
     obtain⟨e,he,hb,hon⟩:=gu (pA WX j oj hj hdj);cases hlj:listed.getD j false with
     | false=>rfl
     | true=>
      have hjo:ops[j]? = some oj:=(by simpa using F.hd j oj hj);have:=inv.closed j oj hjo hlj e he hb;rw[hon,Zi] at this;cases this
    rw[aU ((h.out t V0).trans h2)];exact bE h.le _ _ h1
   cases e
  cases e
 exact λhwt=>Tf (UQ (hw.1 hwt)) hD
theorem uV(F:cH Γ nt ops.toList heads st0 S){n:Nat}(hn:heads.length=n)(h0:RI C nt w0 UM st0 VU a0 W1)
  (listed:Array Bool) (a:Act) (W:World) (i:Nat) (o:Oper) (inv:HeadInv .any ops n listed) (hI:∃ρ,HI C nt w0 UM heads st0 S VU a0 listed ρ a W) (hi:i<n) (ho:ops[i]? = some o) (Zk:heads[i]? = some o) (Zi:listed.getD i false=false)
  (U0:∀e∈o.after,Region.binds .any e=true->listed.getD e.on false=true) (K:Act->World->Prop) (hK:∀a' W',(∃ρ,HI C nt w0 UM heads st0 S VU a0 (listed.setIfInBounds i true) ρ a' W')->K a' W') :
  if Region.wanted o (yielded ops a.tmps)=true then cR C.P C.co o a W K else K (a.put o.dst undef) W:=by
 obtain⟨ρ,h⟩:=hI;subst hn;have hil:i<listed.size:=by rw[inv.size];exact(E'.1 ho).1
 obtain⟨o',g,R,r,Vr⟩:=F.one hi;obtain rfl:o'=o:=by have:=Vr.at_;rw[Zk] at this;exact(Oi this).symm
 have hg:=Vr.gd;have hD:=Vr.d;have hrdl:=Vr.rd;rw[F.rg i (by omega)] at hg hD hrdl;obtain⟨d1,d2⟩:=kR Vr.dst;have ZG:∀oo,ops[i]? = some oo->∀e∈oo.after,Region.binds .any e=true->listed.getD e.on false=true:=λoo Z3=>by rw[ho] at Z3;obtain rfl:=Oi Z3;exact U0
 have wait:∀j,gE o' j=true->listed.getD j false=true:=λj hj=>by obtain⟨e,he,hb,hon⟩:=gu hj;rw[<-hon];exact U0 e he hb
 -- X5 guards' cA
 have Zz:∀p∈g,∃s',look (S heads.length).sl p.1=some s'∧s'.rg=st0.rg∧s'.k<i∧listed.getD s'.k false=true:=by
  rcases gC hg with ⟨-,rfl⟩|⟨j,U',oj,u,s',e1,e2,e3,e4,e5,e6,rfl,e7⟩
  intro p hp;cases hp;have Wp:=F.up (i:=i) (by omega) (I' _) e4 e5;have hl:listed.getD s'.k false=true:=(by rw[e6];exact wait j (e7 rfl));intro p hp;rcases UB.1 hp with rfl|hp;exact⟨s',Wp,e5,(F.ins _ (by omega) u s' e4 e5).1,hl⟩;obtain⟨s2,q1,q2,q4,q3⟩:=F.atoms rfl s'.k u s' rfl Wp e5 p hp;exact⟨s2,q1,q2,by have:=(F.ins _ (by omega) u s' e4 e5).1;omega,q3 listed inv hl⟩
 have hw:Region.wanted o' (yielded ops a.tmps)=true↔holds a g:=by
  rcases gC hg with ⟨h1,rfl⟩|⟨j,U',oj,u,s',e1,e2,e3,e4,e5,e6,rfl,e7⟩
  exact⟨λ_=>holds_nil a,λ_=>dT h1⟩;refine⟨λhw=>?_,λhh=>(eN e1 e2 e3).2 (hh _ Um)⟩;have hb:=(eN e1 e2 e3).1 hw;have Wp:=F.up (i:=i) (by omega) (I' _) e4 e5;have hl:listed.getD s'.k false=true:=(by rw[e6];exact wait j (e7 rfl));have:=((h.ins u s' Wp e5 hl).of_bool hb).1;intro p hp;rcases UB.1 hp with rfl|hp;exact hb;exact this p hp
 have UQ:holds a g->lh (mI true heads i st0.rg (S i).sl o' g) a ρ:=by
  intro hh ex x v e hex;rw[rW] at e;split at e;obtain rfl:=Oi e;exact jk;obtain rfl:=Oi e;rfl;obtain rfl:=Oi e;rfl;rename_i t;split at e;cases e;rename_i s hl;split at e
  ·rename_i hr;have hr:=Nb hr;split at e
   ·rename_i hsub;simp only at e;split at e
    ·rename_i hwt;obtain rfl:=Oi e;obtain⟨y,h1,h2⟩:=(h.ins t s (F.up (i:=i) (by omega) (I' _) hl hr) hr (wait _ hwt)).1 (λp hp=>by
      rcases UC.1 (n7 hsub p hp) with hp|hp;exact pt (hex p hp)
      ·exact hh p hp)
     rw[aU h2];exact h1
    cases e
   cases e
  rename_i hr;have hr:s.rg≠st0.rg:=λe=>(by rw[e,UG] at hr;cases hr);split at e
  ·rename_i hgn;simp only at e;split at e
   ·rename_i WX;obtain rfl:=Oi e;obtain⟨y,h1,h2⟩:=h0.out t s (F.out i (by omega) t s hl hr) hr hgn;have V0:∀j oj,heads[j]? = some oj->oj.dst=some t->listed.getD j false=false:=λj oj hj hdj=>by
     obtain⟨e,he,hb,hon⟩:=gu (pA WX j oj hj hdj);cases hlj:listed.getD j false with
     | false=>rfl
     | true=>
      have hjo:ops[j]? = some oj:=(by simpa using F.hd j oj hj);have:=inv.closed j oj hjo hlj e he hb;rw[hon,Zi] at this;cases this
    rw[aU ((h.out t V0).trans h2)];exact bE h.le _ _ h1
   cases e
  cases e
 have hgi:holds a g->nB r.ob:=λhh=>Da (ρ:=ρ) (λq hq s hs=>by obtain⟨s',q1,q2,q4,q3⟩:=Zz q hq;have VH:s=s':=(by have:=F.early q1 q2 q4 (by omega);rw[hs] at this;exact Oi this);subst VH;exact((h.ins q.1 s q1 q2 q3).of_bool (hh q hq)).2) hh Vr.ob
 -- Yb is done stays done
 have hstay:∀(UL:Names) (d:Nat) (x:Value),o'.dst=some d->ρ.le UL->∀t s,look (S heads.length).sl t=some s->s.rg=st0.rg->listed.getD s.k false=true->mG UL (a.put (some d) x) s.g s.v t:=by intro UL d x hd hl t s hs hr WW;obtain⟨g',r',-,e,-⟩:=F.own Zk hd;have UR:∀u s',look (S heads.length).sl u=some s'->listed.getD s'.k false=true->d≠u:=(by intro u s' hu hls' e2;subst e2;rw[e] at hu;obtain rfl:=Oi hu;have:listed.getD i false=true:=hls';rw[Zi] at this;cases this);have hat:holds (a.put (some d) x) s.g↔holds a s.g:=(by have hq:∀p∈s.g,d≠p.1:=λp hp=>(by obtain⟨s',q1,q2,q4,q3⟩:=F.atoms (md:=ops) (n:=heads.length) rfl s.k t s rfl hs hr p hp;exact UR p.1 s' q1 (q3 listed inv WW));exact⟨λhh p hp=>by rw[<-cr (hq p hp) (x:=x)];exact hh p hp,λhh p hp=>by rw[cr (hq p hp)];exact hh p hp⟩);obtain⟨h1,h2⟩:=h.ins t s hs hr WW;have hdt:=UR t s hs WW;refine⟨λhh=>?_,λhh=>?_⟩;obtain⟨y,h3,h4⟩:=h1 (hat.1 hh);exact⟨y,bE hl _ _ h3,by rw[cr hdt];exact h4⟩;rw[cr hdt];exact h2 λh'=>hh (hat.2 h')
 have WC:∀j,(listed.setIfInBounds i true).getD j false=true->j=i∨listed.getD j false=true:=λj hj=>by by_cases XS:j=i;exact .inl XS;rw[getD_set_ne false (Ne.symm XS)] at hj;exact .inr hj
 have hkeep:∀j,listed.getD j false=true->(listed.setIfInBounds i true).getD j false=true:=λj hj=>getD_set_true hj;have ZI:∀j,(listed.setIfInBounds i true).getD j false=false->listed.getD j false=false:=λj hj=>by
  cases hl:listed.getD j false with
  | false=>rfl
  | true=>rw[hkeep j hl] at hj;cases hj
 have hisz:(listed.setIfInBounds i true).getD i false=true:=sJ hil;have hatd:∀(d:Nat) (x:Value),o'.dst=some d->(holds (a.put (some d) x) g↔holds a g):=by intro d x hd;obtain⟨g',r',-,e,-⟩:=F.own Zk hd;have hq:∀p∈g,d≠p.1:=λp hp e2=>(by obtain⟨s',q1,q2,q4,q3⟩:=Zz p hp;rw[<-e2,e] at q1;obtain rfl:=Oi q1;exact Nat.lt_irrefl _ q4);exact⟨λhh p hp=>by rw[<-cr (hq p hp) (x:=x)];exact hh p hp,λhh p hp=>by rw[cr (hq p hp)];exact hh p hp⟩
 -- a later operation Yu is done does not write Yb this one touches
 have ZK:∀j m Vu,m∈R->i<j->j<heads.length->Wr S j m Vu->listed.getD j false=false:=by
  intro j m Vu hm Yy hj h2;cases hl:listed.getD j false with
  | false=>rfl
  | true=>
   have:=F.order rfl inv Yy hj (.inr ⟨by rw[Vr.rds];exact tA hm,Vu,h2⟩) λoj hoj e he hb=>inv.closed j oj hoj hl e he hb;rw[Zi] at this;cases this
 have hlaterW:∀j m sb Vu,Wr S i m sb->i<j->j<heads.length->Wr S j m Vu->listed.getD j false=false:=by
  intro j m sb Vu h1 Yy hj h2;cases hl:listed.getD j false with
  | false=>rfl
  | true=>
   have:=F.order rfl inv Yy hj (.inl ⟨⟨sb,h1⟩,.inl ⟨Vu,h2⟩⟩) λoj hoj e he hb=>inv.closed j oj hoj hl e he hb;rw[Zi] at this;cases this
 -- Yb it touches is Yb was foretold
 have hcur:∀m∈R,∀sb,look (S i).H m=some sb->cS ρ W m sb:=by
  intro m hm sb hl;rcases F.heap i (by omega) m sb hl with ⟨q1,q2⟩|⟨j,q1,q2,q3⟩
  refine h.con m sb q1 λj sb2 hj ZZ=>?_;rcases Nat.lt_trichotomy j i with hl|hl|hl;exact Up ZZ (q2 j sb2 hl);rw[hl];exact Zi;exact ZK j m sb2 hm hl hj ZZ;have hlj:=F.order rfl inv q1 hi (.inl ⟨⟨sb,q2⟩,.inr ⟨by rw[Vr.rds];exact tA hm,o',g,R,r,Vr,hm⟩⟩) ZG;refine h.wr j m sb (by omega) hlj q2 λj' sb2 Yf hj2 ZZ=>?_;rcases Nat.lt_trichotomy j' i with hl|hl|hl;exact Up ZZ (q3 j' sb2 Yf hl);rw[hl];exact Zi;exact ZK j' m sb2 hm hl hj2 ZZ
 have hhok:VQ C (restrict (S i).H R) ρ W:=⟨h.mem.hb,λm sb hm=>by obtain⟨h1,h2⟩:=jv hm;exact hcur m h1 sb h2⟩
 have hnmT:(S (i+1)).nm<=(S heads.length).nm:=F.nm (by omega) (I' _)
 -- X5 new name is free
 have hgiv:r.fr=true->¬Given heads st0 S listed (S i).nm:=by
  intro WX hgn;have X8:=Vr.nm;rw[WX] at X8;have X8:(S (i+1)).nm=(S i).nm+1:=X8;rcases hgn with UY|⟨j,q2,q3,q4,q5⟩
  have:=F.nm (i:=0) (j:=i) (by omega) (by omega);rw[F.s0] at this;omega;rcases Nat.lt_trichotomy j i with q|q|q;have:=F.nm (i:=j+1) (j:=i) (by omega) (by omega);omega;rw[q,Zi] at q3;cases q3;have:=F.nm (i:=i+1) (j:=j) (by omega) (by omega);omega
 have Yp:r.fr=true->ρ.n (S i).nm=none∧ρ.v (S i).nm=none:=λWX=>by
  constructor
  ·cases hq:ρ.n (S i).nm with
   | none=>rfl
   | some b=>exact Up (h.domn _ b hq) (hgiv WX)
  cases hq:ρ.v (S i).nm with
  | none=>rfl
  | some b=>exact Up (h.domv _ b hq) (hgiv WX)
 -- when it is done
 have done:∀val W' UL,WZ C ρ W (S i).nm (r.w.map Prod.fst) r.fr UL W'->(∀n sb,r.w=some (n,sb)->cS UL W' n sb)->(holds a g->den UL r.v val)->(¬holds a g->val=undef)->
   HI C nt w0 UM heads st0 S VU a0 (listed.setIfInBounds i true) UL (a.put o'.dst val) W':=by
  intro val W' UL e hc hv hu;have X8:=Vr.nm;have hgm:∀m,Given heads st0 S listed m->Given heads st0 S (listed.setIfInBounds i true) m:=λm hm=>hm.imp id λ⟨j,q1,q2,q3⟩=>⟨j,q1,hkeep j q2,q3⟩
  have hgi2:r.fr=true->Given heads st0 S (listed.setIfInBounds i true) (S i).nm:=λWX=>(by rw[WX] at X8;exact .inr ⟨i,hi,hisz,X8,rfl⟩);have hwsome:∀m sb,Wr S i m sb->r.w=some (m,sb):=λm sb hw=>by
   rcases Vr.wr with ⟨-,-,k⟩|⟨n,Vu,k1,k2,-⟩
   exact Up hw (k m sb);obtain⟨rfl,rfl⟩:=hw.uniq k2;exact k1
  have hother:∀m sb,cS ρ W m sb->(∀Vu,¬Wr S i m Vu)->cS UL W' m sb:=λm sb VN V0=>by
   refine e.cont h.mem.hb VN λhq=>?_;rcases Vr.wr with ⟨k1,-⟩|⟨n,Vu,k1,k2,-⟩
   rw[k1] at hq;cases hq;rw[k1] at hq;obtain rfl:=Oi hq;exact V0 Vu k2
  refine⟨h.mem.T1 e (λWX=>?_) λn hn=>?_,h.le.trans e.le,λm b hm=>?_,λm b hm=>?_,λm sb hs V0=>?_,λj m sb hj hlj ZZ V0=>?_,λt s hs hr WW=>?_,λt ht=>?_,by cases o'.dst<;>simp[Act.put,h.sz],by cases o'.dst<;>exact h.df⟩;rw[WX] at X8;have X8:(S (i+1)).nm=(S i).nm+1:=X8;omega
  ·rcases Vr.wr with ⟨k1,-⟩|⟨n',Vu,k1,-,-,k4,-⟩
   rw[k1] at hn;cases hn;rw[k1] at hn;obtain rfl:=Oi hn;rw[<-X8] at k4;show n'<_;omega
  ·rcases e.nn m b hm with h1|⟨rfl,h2,-⟩
   exact hgm m (h.domn m b h1);exact hgi2 h2
  ·rcases e.nv m b hm with h1|⟨rfl,h2,-⟩
   exact hgm m (h.domv m b h1);exact hgi2 h2
  refine hother m sb (h.con m sb hs λj s' hj ZZ=>ZI j (V0 j s' hj ZZ)) λVu hwi=>?_;have:=V0 i Vu hi hwi;rw[hisz] at this;cases this;rcases WC j hlj with rfl|hl;exact hc m sb (hwsome m sb ZZ);refine hother m sb (h.wr j m sb hj hl ZZ λj' s' h1 h2 h3=>ZI j' (V0 j' s' h1 h2 h3)) λVu hwi=>?_;rcases Nat.lt_trichotomy j i with q|q|q;have:=V0 i Vu q hi hwi;rw[hisz] at this;cases this;rw[q,Zi] at hl;cases hl;rw[hlaterW j m Vu sb hwi q hj ZZ] at hl;cases hl
  ·cases hd:o'.dst with
   | none=>
    rcases WC s.k WW with e2|WW;obtain⟨o2,g',r',q1,q2,-⟩:=F.entry hs hr;rw[e2,Zk] at q1;obtain rfl:=Oi q1;rw[hd] at q2;cases q2;obtain⟨h1,h2⟩:=h.ins t s hs hr WW;exact⟨λhh=>let ⟨x,k1,k2⟩:=h1 hh;⟨x,bE e.le _ _ k1,k2⟩,h2⟩
   | some d=>
    rcases WC s.k WW with e2|WW;obtain⟨o2,g',r',q1,q2,-⟩:=F.entry hs hr;rw[e2,Zk] at q1;obtain rfl:=Oi q1;rw[hd] at q2;obtain rfl:=Oi q2;have Y3:d<a.tmps.size:=(by rw[h.sz];exact(d2 d hd).1);have X7:=Vr.sl;rw[hd,F.rg i (by omega)] at X7;have VH:look (S heads.length).sl d=some ⟨st0.rg,i,g,r.v⟩:=F.up (i:=i+1) (by omega) (I' _) (by rw[X7];exact af _ _ _) rfl;rw[hs] at VH;obtain rfl:=Oi VH;exact⟨λhh=>⟨val,hv ((hatd d val hd).1 hh),fX Y3⟩,λhn=>by rw[fX Y3,hu λhh=>hn ((hatd d val hd).2 hh)]⟩;exact hstay UL d val hd e.le t s hs hr WW
  cases hd:o'.dst with
  | none=>exact h.out t λj oj h1 h2=>ZI j (ht j oj h1 h2)
  | some d=>
   rw[cr];exact h.out t λj oj h1 h2=>ZI j (ht j oj h1 h2);rintro rfl;have:=ht i o' Zk hd;rw[hisz] at this;cases this
 split
 ·rename_i hww;have hh:=hw.1 hww;refine Ee (nm:=(S i).nm) hhok Yp (UQ hh) d1 hD (hgi hh) λval W' hp=>?_;obtain⟨UL,p1,p2,p3⟩:=hp;exact hK _ W' ⟨UL,done val W' UL p1 p2 (λ_=>p3) λhn=>Up hh hn⟩
 rename_i hww;have hn:¬holds a g:=λhh=>hww (hw.2 hh);have hnone:r.w=none∧r.fr=false:=by
  rcases vv Vr.w with h1|⟨n,sb,-,rfl,-⟩
  exact h1;exact Up (holds_nil a) hn
 have e:WZ C ρ W (S i).nm (r.w.map Prod.fst) r.fr ρ W:=by rw[hnone.1,hnone.2];exact WZ.uK h.mem.hb (Gr.refl W)
 exact hK _ W ⟨ρ,done undef W ρ e (λn sb h=>by rw[hnone.1] at h;cases h) (λhh=>Up hh hn) λ_=>rfl⟩
theorem HI.later{a0 a:Act}{W:World}{heads:List Oper}{st0:St}{S:Nat->St}{listed:Array Bool}{ρ:Names}{W2:World}(h:HI C nt w0 UM heads st0 S VU a0 listed ρ a W)(r:Rv W W2):HI C nt w0 UM heads st0 S VU a0 listed ρ a W2:=by
 have g:Gr W W2:=⟨r.os,r.tape,r.output,r.size,λb hb=>r.same hb⟩
 have e:=WZ.uK (nm:=0) h.mem.hb g;exact⟨h.mem.gr g,h.le,h.domn,h.domv,λm sb h1 h2=>e.cont h.mem.hb (h.con m sb h1 h2) (by simp),λi m sb h1 h2 h3 h4=>e.cont h.mem.hb (h.wr i m sb h1 h2 h3 h4) (by simp),h.ins,h.out,h.sz,h.df⟩
theorem C9(F:cH Γ nt ops.toList heads st0 S){n:Nat}(hn:heads.length=n)(h0:RI C nt w0 UM st0 VU a0 W1)
  (listed:Array Bool) (a:Act) (W:World) (i:Nat) (o:Oper) (inv:HeadInv .any ops n listed) (hI:∃ρ,HI C nt w0 UM heads st0 S VU a0 listed ρ a W) (hi:i<n) (ho:ops[i]? = some o) (Zk:heads[i]? = some o) (Zi:listed.getD i false=false)
  (U0:∀e∈o.after,Region.binds .any e=true->listed.getD e.on false=true) (K:Act->World->Prop) (hK:∀a' W',(∃ρ,HI C nt w0 UM heads st0 S VU a0 (listed.setIfInBounds i true) ρ a' W')->K a' W') :
  if Region.wanted o (yielded ops a.tmps)=true then OpJ C.P C.co o a W K else K (a.put o.dst undef) W:=by
 have h1:=uV F hn h0 listed a W i o inv hI hi ho Zk Zi U0 K hK;split;rename_i hw;refine⟨Mr F hn h0 listed a W i o inv hI hi ho Zk Zi U0 hw,λW2 r=>?_⟩;obtain⟨ρ,hI⟩:=hI;have h2:=uV F hn h0 listed a W2 i o inv ⟨ρ,hI.later r⟩ hi ho Zk Zi U0 K hK;rw[Uw hw] at h2;exact h2;rename_i hw;rw[Uv hw] at h1;exact h1
end
end Go.Proofs.YtgigkennhdolpaaGreatDoor
namespace Go.Proofs.YtgigkennhdolpaaGreatDoor
open Go.Conc
section
variable {P:Program}{main:Bool}{b:Frame}{a:Act}{k:List Item}{cs:List Frame}{w:World}
theorem AE:stepG P main (G (b.atR a (.code .skip::k)) cs) w=.go (G (b.atR a k) cs) w:=by simp[G,stepG,stepG.exec,Frame.atR]
theorem tT{id:Nat} : stepG P main (G (b.atR a (.inBlock id::k)) cs) w=.go (G (b.atR a k) cs) w:=by simp[G,stepG,stepG.exec,Frame.atR]
theorem Eu{x y:Code} : stepG P main (G (b.atR a (.code (.seq x y)::k)) cs) w=.go (G (b.atR a (.code x::.code y::k)) cs) w:=by simp[G,stepG,stepG.exec,Frame.atR]
theorem AI{c:Operand}{x y:Code}{t:Bool}(h:a.eval c=.bool t) :
  stepG P main (G (b.atR a (.code (.cond c x y)::k)) cs) w=.go (G (b.atR a (.code (if t then x else y)::k)) cs) w:=by
 have h':=congrFun (Frame.eval_atR b a (.code (.cond c x y)::k)) c;rw[h] at h';simp only[Frame.atR] at h';simp[G,stepG,stepG.exec,Frame.atR,h']
theorem xG{id:Nat}{c:Code} : stepG P main (G (b.atR a (.code (.block id c)::k)) cs) w=.go (G (b.atR a (.code c::.inBlock id::k)) cs) w:=by simp[G,stepG,stepG.exec,Frame.atR]
theorem AG{c:Code} : stepG P main (G (b.atR a (.code (.loop c)::k)) cs) w=.go (G (b.atR a (.code c::.inLoop c::k)) cs) w:=by simp[G,stepG,stepG.exec,Frame.atR]
theorem vG{c:Code} : stepG P main (G (b.atR a (.inLoop c::k)) cs) w=.go (G (b.atR a (.code c::.inLoop c::k)) cs) w:=by simp[G,stepG,stepG.exec,Frame.atR]
theorem AH{id:Nat}{k':List Item}(h:exitTo id k=some k'):stepG P main (G (b.atR a (.code (.exit id)::k)) cs) w=.go (G (b.atR a k') cs) w:=by simp[G,stepG,stepG.exec,Frame.atR,h]
theorem vF{id:Nat}{ops:Array Oper} : stepG P main (G (b.atR a (.code (.region id ops false)::k)) cs) w=.go (G (b.atR a (.inRegion ops (List.range ops.size)::k)) cs) w:=by simp[G,stepG,stepG.exec,Frame.atR]
theorem oR{ops:Array Oper} : stepG P main (G (b.atR a (.inRegion ops []::k)) cs) w=.go (G (b.atR a k) cs) w:=by simp[G,stepG,stepG.exec,Frame.atR]
theorem rI{ops:Array Oper}{i:Nat}{rest:List Nat}{o:Oper}(ho:ops[i]? = some o)(hw:Region.wanted o (yielded ops a.tmps)=false) :
  stepG P main (G (b.atR a (.inRegion ops (i::rest)::k)) cs) w=.go (G (b.atR (a.put o.dst undef) (.inRegion ops rest::k)) cs) w:=by
 have VY:(b.atR a (.inRegion ops (i::rest)::k)).finish undef=b.atR (a.put o.dst undef) (.inRegion ops rest::k):=by rw[Frame.finish_atR,ho];rfl
 rw[<-VY];simp[G,stepG,stepG.exec,Frame.atR,ho,hw]
theorem j9{ops:Array Oper}{i:Nat}{rest:List Nat}{o:Oper}(ho:ops[i]? = some o)(hw:Region.wanted o (yielded ops a.tmps)=true)(hd:∀c,o.op≠.defer c) :
  stepG P main (G (b.atR a (.inRegion ops (i::rest)::k)) cs) w=stepG.apply P true (b.atR a (.inRegion ops (i::rest)::k)) cs none (execOp a.eval o) w:=by
 have he:=Frame.eval_atR b a (.inRegion ops (i::rest)::k);have e:=Oper.semAt_eq b.roundOf a.eval o hd;rw[<-e];simp only[Frame.atR] at he;simp only[G,stepG,stepG.exec,stepG.oper,Frame.oper?,Frame.atR,ho,hw,he,Option.map_some,Option.getD_some,if_true,Oper.semAt];cases b.roundOf<;>cases o.op<;>rfl
theorem xD{ops:Array Oper}{i:Nat}{rest:List Nat}{o:Oper}{v:Value}{w':World}(ho:ops[i]? = some o)(hw:Region.wanted o (yielded ops a.tmps)=true)
  (hk:b.kind≠.early) (hd:∀c,o.op≠.defer c) (hr:(execOp a.eval o).run P w=.ok (.value v) w') :
  stepG P main (G (b.atR a (.inRegion ops (i::rest)::k)) cs) w=.go (G (b.atR (a.put o.dst v) (.inRegion ops rest::k)) cs) w' (listed P b.fn a o w):=by
 have VY:(b.atR a (.inRegion ops (i::rest)::k)).finish v=b.atR (a.put o.dst v) (.inRegion ops rest::k):=by rw[Frame.finish_atR,ho];rfl
 have WJ:(b.kind==CallKind.early)=false:=by simpa using hk
 rw[j9 ho hw hd,<-VY];simp[stepG.apply,hr,G,Frame.atR,WJ,GStep.after,listed]
theorem AF{ops:Array Oper}{i:Nat}{rest:List Nat}{o:Oper}{w':World}(ho:ops[i]? = some o)(hw:Region.wanted o (yielded ops a.tmps)=true)
  (hk:b.kind≠.early) (hd:∀c,o.op≠.defer c) (hr:(execOp a.eval o).run P w=.ok .skip w') :
  stepG P main (G (b.atR a (.inRegion ops (i::rest)::k)) cs) w=.go (G (b.atR (a.put o.dst undef) (.inRegion ops rest::k)) cs) w' (listed P b.fn a o w):=by
 have VY:(b.atR a (.inRegion ops (i::rest)::k)).finish undef=b.atR (a.put o.dst undef) (.inRegion ops rest::k):=by rw[Frame.finish_atR,ho];rfl
 have WJ:(b.kind==CallKind.early)=false:=by simpa using hk
 rw[j9 ho hw hd,<-VY];simp[stepG.apply,hr,G,Frame.atR,WJ,GStep.after,listed]
theorem xF{ops:Array Oper}{i:Nat}{rest:List Nat}{o:Oper}{f:FuncId}{args:Array Value}{w':World}(ho:ops[i]? = some o)(hw:Region.wanted o (yielded ops a.tmps)=true)
  (hk:b.kind≠.early) (hd:∀c,o.op≠.defer c) (hr:(execOp a.eval o).run P w=.ok (.enter f args) w') :
  stepG P main (G (b.atR a (.inRegion ops (i::rest)::k)) cs) w=.go (G (Frame.enter P f args .normal) (b.atR a (.inRegion ops (i::rest)::k)::cs)) w' (listed P b.fn a o w):=by
 have WJ:(b.kind==CallKind.early)=false:=by simpa using hk
 rw[j9 ho hw hd];simp[stepG.apply,hr,G,Frame.atR,WJ,GStep.after,listed]
theorem xE{ops:Array Oper}{i:Nat}{rest:List Nat}{o:Oper}{l:Nat}{fn:FuncId}{tmps:Array Value}{VB body:Code}{w':World}(ho:ops[i]? = some o)(hw:Region.wanted o (yielded ops a.tmps)=true)
  (hk:b.kind≠.early) (hd:∀c,o.op≠.defer c) (hr:(execOp a.eval o).run P w=.ok (.round l fn tmps VB body) w') :
  stepG P main (G (b.atR a (.inRegion ops (i::rest)::k)) cs) w=.go (G (Frame.round l fn tmps VB body .normal) (b.atR a (.inRegion ops (i::rest)::k)::cs)) w' (listed P b.fn a o w):=by
 have WJ:(b.kind==CallKind.early)=false:=by simpa using hk
 rw[j9 ho hw hd];simp[stepG.apply,hr,G,Frame.atR,WJ,GStep.after,listed]
end
theorem vX{P:Program}{co:Bool}{o:Oper}{a:Act}{w:World}{K:Act->World->Prop}(h:cR P co o a w K):∀c,o.op≠.defer c:=by
 intro c e;unfold cR at h;have key:∀r,(execOp a.eval o).run P w=r->¬xy P co o a K r:=by
  intro r hr;have e2:execOp a.eval o=(resolve a.eval c o.type >>= λd=>pure (Next.defer d)):=(by unfold execOp;rw[e]);rw[e2,UJ] at hr;subst hr;cases (resolve a.eval c o.type).run P w with
  | halt x w'=>exact λh=>h
  | ok x w'=>exact λh=>h
 exact key _ rfl h
def Ue(E:Goroutine->World->Prop)(b:Frame)(k:List Item)(cs:List Frame):Exit->Act->World->Prop
 | .normal,a,w=>E (G (b.atR a k) cs) w
 | .exit id,a,w=>∃k',exitTo id k=some k'∧E (G (b.atR a k') cs) w
 | .ret,a,w=>b.roundOf=none∧∀todo,E (G {b.atR a todo with mode:=.returning} cs) w
 | _,_,_=>True
def wpR(P:Program)(co:Bool)(c:Code)(Q:Exit->Act->World->Prop)(a:Act)(W:World):Prop:=
 ∀E,Closed P co E->∀(b:Frame) (k:List Item) (cs:List Frame),b.kind≠.early->(∀e a' w',Q e a' w'->LK e∧Ue E b k cs e a' w')->E (G (b.atR a (.code c::k)) cs) W
section
variable {P:Program}{co:Bool}{Q Q':Exit->Act->World->Prop}{a:Act}{W:World}
theorem wpR.toJ{c:Code}(h:wpR P co c Q a W):wpJ P co c Q a W:=by
 intro E hE b k cs h1 h2 h3;have:=h E hE b k cs h1 λe a' w' hq=>⟨(h3 e a' w' hq).1,by
  have h4:=(h3 e a' w' hq).2;cases e with
  | normal=>show E _ _;rw[Frame.atR_of_none h2];exact h4
  | exit id=>obtain⟨k',h5,h6⟩:=h4;refine⟨k',h5,?_⟩;rw[Frame.atR_of_none h2];exact h6
  | ret=>refine⟨h2,λtodo=>?_⟩;rw[Frame.atR_of_none h2];exact h4 todo
  | goto l=>trivial
  | panic c=>trivial
  | outgrown=>trivial⟩
 rwa [Frame.atR_of_none h2] at this
theorem dY{c:Code}(h:wpR P co c Q a W)(k:∀e a w,Q e a w->Q' e a w):wpR P co c Q' a W:=λE hE b t cs h1 h3=>h E hE b t cs h1 λe a' w' hq=>h3 e a' w' (k e a' w' hq)
theorem H5{E:Goroutine->World->Prop}(hE:Closed P co E){b:Frame}{k:List Item}{cs:List Frame}(hk:b.kind≠.early){ops:Array Oper}{i:Nat}{rest:List Nat}{o:Oper}(ho:ops[i]? = some o)(hw:Region.wanted o (yielded ops a.tmps)=true)
  {K:Act->World->Prop} (h:OpJ P co o a W K) (hK:∀a' w',K a' w'->E (G (b.atR a' (.inRegion ops rest::k)) cs) w'):E (G (b.atR a (.inRegion ops (i::rest)::k)) cs) W:=by
 refine hE.step rfl λW1 h1=>?_;have hu:=h.2 W1 h1;have hd:=vX hu;unfold cR at hu;cases hr:(execOp a.eval o).run P W1 with
 | halt x w'=>rw[hr] at hu;exact hu.elim
 | ok x w'=>
  rw[hr] at hu;cases x with
  | value v=>
   refine⟨_,w',λmain S R w hv=>?_,hK _ _ hu⟩;obtain⟨u,k1,k2,kk,k3⟩:=b7 #[] h.1 hv hr;refine⟨u,_,xD ho hw hk hd k1,k2,kk,λe he=>?_⟩;rcases k3 e (mem_listed he) with q|q;simp at q;exact q
  | skip=>
   refine⟨_,w',λmain S R w hv=>?_,hK _ _ hu⟩;obtain⟨u,k1,k2,kk,k3⟩:=b7 #[] h.1 hv hr;refine⟨u,_,AF ho hw hk hd k1,k2,kk,λe he=>?_⟩;rcases k3 e (mem_listed he) with q|q;simp at q;exact q
  | enter f args=>
   refine⟨G (Frame.enter P f args .normal) (b.atR a (.inRegion ops (i::rest)::k)::cs),w',λmain S R w hv=>?_,?_⟩;obtain⟨u,k1,k2,kk,k3⟩:=b7 #[] h.1 hv hr;refine⟨u,_,xF ho hw hk hd k1,k2,kk,λe he=>?_⟩;rcases k3 e (mem_listed he) with q|q;simp at q;exact q;have hu:br P co f args w' _:=hu;refine hu E hE _ λe w2 fr hR _ hl=>?_;cases e with
   | panicked c=>exact hR.elim
   | outgrown=>exact hR.elim
   | returned v=>
    have hR:K (a.put o.dst v) w2:=hR;obtain⟨l1,l2,l3,fn,l4,l5⟩:=hl;refine hE.step rfl λW3 h3=>⟨G (b.atR (a.put o.dst v) (.inRegion ops rest::k)) cs,W3,λmain S R w hv=>?_,hE.mono (hK _ _ hR) h3⟩
    have e1:=oq h3 hv (cY fn fr.tmps) l5;obtain⟨u,k1,k2,kk,k3⟩:=b7 #[] (cY fn fr.tmps).ns hv e1;refine⟨u,seen P fr.fn ((results fn fr.tmps).events P w #[]),?_,k2,kk,λe he=>?_⟩;have VY:(b.atR a (.inRegion ops (i::rest)::k)).finish v=b.atR (a.put o.dst v) (.inRegion ops rest::k):=(by rw[Frame.finish_atR,ho];rfl);rw[<-VY];obtain⟨ffn,ZR,ZQ,XU,ZS,ZT,YD⟩:=fr;simp only at l1 l2 l3 l4 k1;subst l1 l2 l3;simp[G,stepG,unwind,doReturn,l4,k1,GStep.after];rcases k3 e (mem_seen he) with q|q;simp at q;exact q
  | round l fn tmps VB body=>
   refine⟨G (Frame.round l fn tmps VB body .normal) (b.atR a (.inRegion ops (i::rest)::k)::cs),w',λmain S R w hv=>?_,?_⟩;obtain⟨u,k1,k2,kk,k3⟩:=b7 #[] h.1 hv hr;refine⟨u,_,xE ho hw hk hd k1,k2,kk,λe he=>?_⟩;rcases k3 e (mem_listed he) with q|q;simp at q;exact q;have hu:jB P co l fn tmps VB body w' _:=hu;refine hu E hE _ _ λv w2 hR=>?_;have VY:(b.atR a (.inRegion ops (i::rest)::k)).finish v=b.atR (a.put o.dst v) (.inRegion ops rest::k):=(by rw[Frame.finish_atR,ho];rfl);rw[VY];exact hK _ _ hR
  | _=>exact hu.elim
theorem nD{E:Goroutine->World->Prop}(hE:Closed P co E){b:Frame}{k:List Item}{cs:List Frame}(hk:b.kind≠.early){ops:Array Oper}(hQ:∀a' w',Q .normal a' w'->E (G (b.atR a' k) cs) w') :
  ∀(l:List Nat) (a:Act) (W:World),eD P co ops Q l a W->E (G (b.atR a (.inRegion ops l::k)) cs) W
 | [],a,W,h=>hE.cg rfl (λ_ _=>oR) (hQ a W h)
 | i::rest,a,W,h=>by
  have ih:=nD (ops:=ops) hE hk hQ rest;cases ho:ops[i]? with
  | none=>
   simp only[eD,ho] at h;refine hE.cg rfl (λmain w=>?_) (ih a W h);have VY:(b.atR a (.inRegion ops (i::rest)::k)).finish undef=b.atR a (.inRegion ops rest::k):=(by rw[Frame.finish_atR,ho];rfl);rw[<-VY];simp[G,stepG,stepG.exec,Frame.atR,ho]
  | some o=>
  simp only[eD,ho] at h;split at h;rename_i hw;exact H5 hE hk ho hw h λa' w' h'=>ih a' w' h';rename_i hw;exact hE.cg rfl (λ_ _=>rI ho (by simpa using hw)) (ih _ _ h)
theorem kV{id:Nat}{ops:Array Oper}(h:cz P co ops Q ops.toList a W):wpR P co (.region id ops false) Q a W:=by
 intro E hE b k cs h1 h3;refine hE.cg rfl (λ_ _=>vF) ?_;have h:=pV ops.toList 0 (λj=>by simp) a W h;have e:List.range' 0 ops.toList.length=List.range ops.size:=by rw[List.range_eq_range'];simp
 rw[e] at h;exact nD hE h1 (λa' w' YZ=>(h3 _ _ _ YZ).2) _ a W h
theorem ln{id:Nat}{ops:Array Oper}(hm:P.follows .mixedOrders=true)(h:∀W1,Rv W W1->lu P co .any ops Q ops.size (Array.replicate ops.size false) a W1):wpR P co (.region id ops true) Q a W:=by
 intro E hE b k cs h1 h3;refine hE.step rfl λW1 r1=>?_;obtain⟨t,ht⟩:∃t,t=(Question.order b.fn id).cut (W1.tape W1.drawn (.order b.fn id)):=⟨_,rfl⟩
 refine⟨G (b.atR a (.inRegion ops (Region.schedule (P.follows .mixedOrders) ops t)::k)) cs,W1.drew,λmain S R w hv=>⟨w.drew,#[],?_,hv.drew,⟨I' _,λ_ _=>rfl,rfl,rfl,rfl⟩,λe he=>by simp at he⟩,?_⟩;have hc:(choose (.order b.fn id)).run P w=.ok t w.drew:=(by rw[ht,<-hv.tape,<-hv.drawn];rfl);generalize hqq:choose (.order b.fn id)=qq at hc;simp[G,stepG,stepG.exec,Frame.atR,hqq,hc];refine nD hE h1 (λa' w' YZ=>(h3 _ _ _ YZ).2) _ a _ ?_;simp only[Region.schedule,hm,Bool.true_or,if_true];exact nV ops.size t _ a _ (h _ (r1.trans (Rv.drew W1)))
theorem rv(h:Q .normal a W):wpR P co .skip Q a W:=λ_ hE _ _ _ _ h3=>hE.cg rfl (λ_ _=>AE) (h3 _ _ _ h).2
theorem ja{x y:Code}(h:wpR P co x (Exit.then (wpR P co y Q) Q) a W):wpR P co (.seq x y) Q a W:=by
 intro E hE b k cs h1 h3;refine hE.cg rfl (λ_ _=>Eu) (h E hE b (.code y::k) cs h1 λe a' w' hq=>?_);cases e with
 | normal=>exact⟨trivial,hq E hE b k cs h1 h3⟩
 | exit id=>
  obtain⟨-,k',e1,e2⟩:=h3 (.exit id) _ _ hq;exact⟨trivial,k',by simpa[exitTo] using e1,e2⟩
 | ret=>exact h3 .ret _ _ hq
 | goto l=>exact h3 (.goto l) _ _ hq
 | panic c=>exact h3 (.panic c) _ _ hq
 | outgrown=>exact h3 .outgrown _ _ hq
theorem nR{c:Operand}{x y:Code}{t:Bool}(hc:a.eval c=.bool t)(h:wpR P co (if t then x else y) Q a W):wpR P co (.cond c x y) Q a W:=
 λE hE b k cs h1 h3=>hE.cg rfl (λ_ _=>AI hc) (h E hE b k cs h1 h3)
theorem jr{c:Operand}{x y:Code}(hc:a.eval c=.bool true)(h:wpR P co x Q a W):wpR P co (.cond c x y) Q a W:=nR hc h
theorem iJ{c:Operand}{x y:Code}(hc:a.eval c=.bool false)(h:wpR P co y Q a W):wpR P co (.cond c x y) Q a W:=nR hc h
theorem lp{c:Operand}{x y:Code}{t:Bool}(hc:a.eval c=.bool t)(h1:t=true->wpR P co x Q a W)(h2:t=false->wpR P co y Q a W):wpR P co (.cond c x y) Q a W:=by
 cases t with
 | true=>exact nR hc (h1 rfl)
 | false=>exact nR hc (h2 rfl)
theorem oK{id:Nat}{c:Code}(h:wpR P co c (Exit.inBlock id Q) a W):wpR P co (.block id c) Q a W:=by
 intro E hE b k cs h1 h3;refine hE.cg rfl (λ_ _=>xG) (h E hE b (.inBlock id::k) cs h1 λe a' w' hq=>?_);cases e with
 | normal=>exact⟨trivial,hE.cg rfl (λ_ _=>tT) (h3 .normal _ _ hq).2⟩
 | exit i=>
  have hq2:if i=id then Q .normal a' w' else Q (.exit i) a' w':=hq;refine⟨trivial,?_⟩;by_cases e:i=id;rw[Uw e] at hq2;subst e;exact⟨k,by simp[exitTo],(h3 .normal _ _ hq2).2⟩;rw[Uv e] at hq2;obtain⟨-,k',e1,e2⟩:=h3 (.exit i) _ _ hq2;exact⟨k',by simpa[exitTo,e,Ne.symm e] using e1,e2⟩
 | ret=>exact h3 .ret _ _ hq
 | goto l=>exact h3 (.goto l) _ _ hq
 | panic c=>exact h3 (.panic c) _ _ hq
 | outgrown=>exact h3 .outgrown _ _ hq
theorem xu{id:Nat}(h:Q (.exit id) a W):wpR P co (.exit id) Q a W:=λE hE b k cs h1 h3=>by obtain⟨-,k',e1,e2⟩:=h3 _ _ _ h;exact hE.cg rfl (λ_ _=>AH e1) e2
theorem K1(h:Q .ret a W):wpR P co .ret Q a W:=λE hE b k cs h1 h3=>by obtain⟨-,h2,h4⟩:=h3 .ret _ _ h;exact hE.cg rfl (λmain w=>by simp[G,stepG,stepG.exec,Frame.atR,h2]) (h4 (.code .ret::k))
theorem ry{c:Code}(I:Nat->Act->World->Prop)(n0:Nat)(h0:I n0 a W)(round:∀n a w,I n a w->wpR P co c (Exit.then (λa' w'=>∃m,m<n∧I m a' w') Q) a w):wpR P co (.loop c) Q a W:=by
 intro E hE b k cs h1 h3;have key:∀n a w,I n a w->E (G (b.atR a (.code c::.inLoop c::k)) cs) w:=by
  intro n
  induction n using Nat.strongRecOn with
  | _ n ih=>
   intro a w hI;refine round n a w hI E hE b (.inLoop c::k) cs h1 λe a' w' hq=>?_;cases e with
   | normal=>
    obtain⟨m,hm,hI'⟩:=hq;exact⟨trivial,hE.cg rfl (λ_ _=>vG) (ih m hm a' w' hI')⟩
   | exit id=>
    obtain⟨-,k',e1,e2⟩:=h3 (.exit id) _ _ hq;exact⟨trivial,k',by simpa[exitTo] using e1,e2⟩
   | ret=>exact h3 .ret _ _ hq
   | goto l=>exact h3 (.goto l) _ _ hq
   | panic c=>exact h3 (.panic c) _ _ hq
   | outgrown=>exact h3 .outgrown _ _ hq
 exact hE.cg rfl (λ_ _=>AG) (key n0 a W h0)
end
end Go.Proofs.YtgigkennhdolpaaGreatDoor
