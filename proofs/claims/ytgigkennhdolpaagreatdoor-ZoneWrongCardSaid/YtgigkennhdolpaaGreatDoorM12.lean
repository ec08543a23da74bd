/- A symbolic executor with lists, 13. -/
import Derived.Test.YtgigkennhdolpaaGreatDoorM11
namespace Go.Proofs.YtgigkennhdolpaaGreatDoor
open Go.RowKit
def holds(a:Act)(g:List (Nat×Bool)):Prop:=∀p∈g,a.tmps[p.1]? = some (.bool p.2)
def mG(ρ:Names)(a:Act)(g:List (Nat×Bool))(v:SV)(t:Nat):Prop:=
 (holds a g->∃x,den ρ v x∧a.tmps[t]? = some x)∧(¬holds a g->a.tmps[t]? = some undef)
def iX(ρ:Names)(b:Nat):Prop:=(∃n,bT ρ n b)∨ρ.o b
structure Af (UM:Names) (w0 W:World):Prop where
 os:W.os=w0.os
 tape:W.tape=w0.tape
 output:W.output=w0.output
 size:w0.heap.size<=W.heap.size
 block:∀b,b<w0.heap.size->¬iX UM b->W.heap[b]? = w0.heap[b]?
theorem Af.refl(UM:Names)(w:World):Af UM w w:=⟨rfl,rfl,rfl,I' _,λ_ _ _=>rfl⟩
theorem Af.gr{UM:Names}{w0 W W':World}(h:Af UM w0 W)(g:Gr W W'):Af UM w0 W':=
 ⟨g.os.trans h.os,g.tape.trans h.tape,g.output.trans h.output,Nat.le_trans h.size g.size,λb hb hn=>(Below.block g b (Nat.lt_of_lt_of_le hb h.size)).trans (h.block b hb hn)⟩
theorem Af.G7{UM:Names}{w0 W:World}(h:Af UM w0 W)(hn:∀b,¬iX UM b):Gr w0 W:=
 ⟨h.os,h.tape,h.output,h.size,λb hb=>h.block b hb (hn b)⟩
theorem Names.le.unD{ρ UL:Names}(h:ρ.VE.le UL):ρ.le UL:=⟨h.n,h.v,h.k,h.z⟩
structure Mem {PP:Program} (C:Cx PP) (w0:World) (UM:Names) (nm:Nat) (ρ:Names) (W:World):Prop where
 hb:HB C ρ W
 dom:∀n b,ρ.n n=some b->n<nm
 domv:∀e l,ρ.v e=some l->e<nm∧l.o<nm
 domk:∀m i l,ρ.k m i=some l->m<nm
 le:UM.le ρ
 old:∀n b,bT ρ n b->iX UM b∨w0.heap.size<=b
 zold:∀b i c,ρ.z b i c->UM.z b i c∨w0.heap.size<=b∨iX UM b
 keep:Af UM w0 W
theorem Mem.refl{PP:Program}{C:Cx PP}{ρ:Names}{W:World}{nm:Nat}(hb:HB C ρ W)(dom:∀n b,ρ.n n=some b->n<nm)(domv:∀e l,ρ.v e=some l->e<nm∧l.o<nm)(domk:∀m i l,ρ.k m i=some l->m<nm):Mem C W ρ.VE nm ρ W:=
 ⟨hb,dom,domv,domk,⟨λ_ _ h=>h,λ_ _ h=>h,λ_ _ _ h=>h,λ_ _ _ h=>h⟩,λn _ h=>.inl (.inl ⟨n,h⟩),λ_ _ _ h=>.inl h,.refl _ _⟩
theorem Mem.trans{PP:Program}{C:Cx PP}{w0 w1 w2:World}{VU Vq Wy:Names}{n1 n2:Nat}(h:Mem C w0 VU n1 Vq w1)(k:Mem C w1 Vq.VE n2 Wy w2):Mem C w0 VU n2 Wy w2:=by
 have hs:=h.keep.size;have WG:∀b,iX Vq.VE b->iX VU b∨w0.heap.size<=b:=λb hm=>by
  rcases hm with ⟨n,hn⟩|hn
  exact h.old n b hn;exact hn.elim
 refine⟨k.hb,k.dom,k.domv,k.domk,h.le.trans k.le.unD,λn b hn=>?_,λb i c hz=>?_,⟨k.keep.os.trans h.keep.os,k.keep.tape.trans h.keep.tape,k.keep.output.trans h.keep.output,Nat.le_trans hs k.keep.size,λb hb hn=>?_⟩⟩;rcases k.old n b hn with h1|h1;exact WG b h1;exact .inr (by omega);rcases k.zold b i c hz with h1|h1|h1;exact h.zold b i c h1;exact .inr (.inl (by omega));rcases WG b h1 with h2|h2;exact .inr (.inr h2);exact .inr (.inl h2);have h1:¬iX Vq.VE b:=λho=>by rcases WG b ho with h2|h2;exact hn h2;omega
 exact(k.keep.block b (by omega) h1).trans (h.keep.block b hb hn)
theorem Mem.gr{PP:Program}{C:Cx PP}{w0 W W':World}{UM ρ:Names}{nm:Nat}(h:Mem C w0 UM nm ρ W)(g:Gr W W'):Mem C w0 UM nm ρ W':=⟨h.hb.gr g,h.dom,h.domv,h.domk,h.le,h.old,h.zold,h.keep.gr g⟩
theorem Mem.eff{PP:Program}{C:Cx PP}{w0 W W':World}{UM ρ UL:Names}{nm:Nat}{wn:Option Nat}{fr:Bool}(h:Mem C w0 UM nm ρ W)(e:WZ C ρ W nm wn fr UL W')(hw:∀n,wn=some n->n<k9 fr nm):Mem C w0 UM (k9 fr nm) UL W':=by
 have hle:nm<=k9 fr nm:=by cases fr<;>simp[k9]
 have hs:=h.keep.size;have V7:∀n b,bT UL n b->bT ρ n b∨W.heap.size<=b:=λn b ho=>by
  rcases ho with ho|⟨ep,l,o,h1,h2,h3,h4⟩|⟨i,l,o,h1,h3,h4⟩
  ·rcases e.nn n b ho with h1|⟨-,-,-,h1⟩
   exact .inl (.inl h1);exact .inr h1
  ·rcases e.nv ep l h1 with k1|⟨-,-,k2,k3⟩
   exact .inl (.inr (.inl ⟨ep,l,o,k1,h2,h3,h4⟩));rw[<-h2];exact k3 b o h4 h3
  exact .inl (.inr (.inr ⟨i,l,o,(e.nk n i).symm.trans h1,h3,h4⟩))
 refine⟨e.hb,λn b hn=>?_,λep l hl=>?_,λm i l hl=>Nat.lt_of_lt_of_le (h.domk m i l ((e.nk m i).symm.trans hl)) hle,h.le.trans e.le,λn b hn=>?_,λb i c hz=>?_,⟨e.os.trans h.keep.os,e.tape.trans h.keep.tape,e.output.trans h.keep.output,Nat.le_trans hs e.size,λb hb hn=>?_⟩⟩
 ·rcases e.nn n b hn with h1|⟨rfl,h2,-,-⟩
  have:=h.dom n b h1;omega;rw[h2];exact Nat.lt_succ_self _
 ·rcases e.nv ep l hl with h1|⟨rfl,h2,h3,-⟩
  have:=h.domv ep l h1;omega;refine⟨by rw[h2];exact Nat.lt_succ_self _,hw _ h3⟩
 rcases V7 n b hn with h1|h1;exact h.old n b h1;exact .inr (by omega);rcases e.nz b i c hz with h1|h1;exact h.zold b i c h1;exact .inr (.inl (by omega));refine(e.block b (by omega) λn _ ho=>?_).trans (h.keep.block b hb hn);rcases h.old n b ho with h1|h1;exact hn h1;omega
structure Base {PP:Program} (C:Cx PP) (nt:Nat) (w0:World) (UM:Names) (H:aY) (nm:Nat) (ρ:Names) (a:Act) (W:World):Prop where
 mem:Mem C w0 UM nm ρ W
 blk:∀n sb,look H n=some sb->cS ρ W n sb
 sz:a.tmps.size=nt
 df:a.defers=UM.d
theorem Base.Vg{PP:Program}{C:Cx PP}{nt:Nat}{w0:World}{UM:Names}{H:aY}{nm:Nat}{ρ:Names}{a:Act}{W:World}(h:Base C nt w0 UM H nm ρ a W):VQ C H ρ W:=⟨h.mem.hb,h.blk⟩
structure RI {PP:Program} (C:Cx PP) (nt:Nat) (w0:World) (UM:Names) (st:St) (ρ:Names) (a:Act) (W:World):Prop where
 base:Base C nt w0 UM st.H st.nm ρ a W
 rgs:∀t s,look st.sl t=some s->s.rg<=st.rg
 out:∀t s,look st.sl t=some s->s.rg≠st.rg->s.g=[]->∃x,den ρ s.v x∧a.tmps[t]? = some x
 ins:∀t s,look st.sl t=some s->s.rg=st.rg->mG ρ a s.g s.v t
 cl:∀t s,look st.sl t=some s->s.rg=st.rg->∀p∈s.g,∃s',look st.sl p.1=some s'∧s'.rg=st.rg
structure Rp {PP:Program} (C:Cx PP) (nt:Nat) (w0:World) (UM:Names) (st:St) (ρ:Names) (a:Act) (W:World):Prop where
 base:Base C nt w0 UM st.H st.nm ρ a W
 rgs:∀t s,look st.sl t=some s->s.rg<=st.rg
 cA:∀t s,look st.sl t=some s->s.g=[]->∃x,den ρ s.v x∧a.tmps[t]? = some x
theorem holds_nil(a:Act):holds a []:=λ_ h=>by cases h
theorem pt{a:Act}{t:Nat}{b:Bool}(h:a.eval (.tmp t)=.bool b):a.tmps[t]? = some (.bool b):=by have h':a.tmps.getD t undef=.bool b:=h;rcases Nat.lt_or_ge t a.tmps.size with hl|hl;simpa[hl] using h';simp[Array.getElem?_eq_none hl,undef] at h'
theorem aU{a:Act}{t:Nat}{x:Value}(h:a.tmps[t]? = some x):a.eval (.tmp t)=x:=by show a.tmps.getD t undef=x;simp[h]
theorem mG.of_bool{ρ:Names}{a:Act}{g:List (Nat×Bool)}{v:SV}{t:Nat}{b:Bool}(h:mG ρ a g v t)(hb:a.tmps[t]? = some (.bool b)):holds a g∧∃x,den ρ v x∧a.tmps[t]? = some x:=by by_cases hh:holds a g;exact⟨hh,h.1 hh⟩;have:=h.2 hh;rw[hb] at this;simp[undef] at this
theorem yP{sl:List (Nat×Slot)}{a:Act}{ρ:Names} : ∀{g:List (Nat×Bool)} {p:Prop},(∀q∈g,∀s,look sl q.1=some s->∃x,den ρ s.v x∧a.tmps[q.1]? = some x)->holds a g->sI sl g p->p
 | [],p,_,_,h=>h
 | (t,U')::r,p,hs,hh,h=>by have ih:sI sl r p->p:=yP (λq hq=>hs q (Ux _ hq)) (λq hq=>hh q (Ux _ hq));simp only[sI] at h;split at h;exact ih h;rename_i s hl;split at h;exact ih h;rename_i b hb;refine ih (h ?_);obtain⟨x,h1,h2⟩:=hs (t,U') Um s hl;have h0:=SV.bool?_den hb h1;have h3:a.tmps[t]? = some (.bool U'):=hh (t,U') Um;have h4:a.tmps[t]? = some x:=h2;rw[h3,h0] at h4;injection h4 with h5;injection h5 with h5;exact h5.symm
theorem Da{sl:List (Nat×Slot)}{a:Act}{ρ:Names}{g:List (Nat×Bool)}{ob:Option Prop}(hs:∀q∈g,∀s,look sl q.1=some s->∃x,den ρ s.v x∧a.tmps[q.1]? = some x)(hh:holds a g)(h:nB (IX sl g ob)):nB ob:=by
 cases ob with
 | none=>trivial
 | some p=>
  cases g with
  | nil=>exact h
  | cons q r=>exact yP hs hh h
theorem mc{PP:Program}{C:Cx PP}{nt:Nat}{w0:World}{UM:Names}{st:St}{ρ:Names}{a:Act}{W:World}(h:RI C nt w0 UM st ρ a W){heads:List Oper}{k:Nat}{o:Oper}{gk:List (Nat×Bool)}(hg:holds a gk) :
  lh (mI false heads k st.rg st.sl o gk) a ρ:=by
 intro ex x v e hex;rw[rW] at e;split at e;obtain rfl:=Oi e;exact jk;obtain rfl:=Oi e;rfl;obtain rfl:=Oi e;rfl;rename_i t;split at e;cases e;rename_i s hl;split at e
 ·rename_i hr;have hr:=Nb hr;split at e
  ·rename_i hsub;obtain rfl:=Oi e;obtain⟨y,h1,h2⟩:=(h.ins t s hl hr).1 (λp hp=>by
    rcases UC.1 (n7 hsub p hp) with hp|hp;exact pt (hex p hp)
    ·exact hg p hp)
   rw[aU h2];exact h1
  cases e
 rename_i hr;have hr:s.rg≠st.rg:=λe=>by rw[e,UG] at hr;cases hr
 split at e;rename_i hgn;obtain rfl:=Oi e;obtain⟨y,h1,h2⟩:=h.out t s hl hr hgn;rw[aU h2];exact h1;cases e
theorem gC{any:Bool}{ops:List Oper}{rg:Nat}{sl:List (Nat×Slot)}{o:Oper}{g:List (Nat×Bool)}(h:guardOf any ops rg sl o=some g) :
  (o.guard=none∧g=[])∨∃j U' oj t s,o.guard=some (j,U')∧ops[j]? = some oj∧oj.dst=some t∧look sl t=some s∧s.rg=rg∧s.k=j∧g=(t,U')::s.g∧(any=true->gE o j=true):=by
 unfold guardOf at h;split at h;rename_i hg;exact .inl ⟨hg,(Oi h).symm⟩;rename_i j U' hg;split at h;cases h;rename_i oj hoj;split at h;cases h;rename_i t ht;split at h;cases h;rename_i s hs;split at h;rename_i h1 h2;have e1:=Nb h1;have e2:=Nb h2;split at h;split at h;rename_i hw;exact .inr ⟨j,U',oj,t,s,hg,hoj,ht,hs,e1,e2,(Oi h).symm,λ_=>hw⟩;cases h;exact .inr ⟨j,U',oj,t,s,hg,hoj,ht,hs,e1,e2,(Oi h).symm,λh=>by cases h⟩;cases h
theorem dT{o:Oper}{y:Nat->Option Bool}(h:o.guard=none):Region.wanted o y=true:=by simp[Region.wanted,h]
theorem eN{o oj:Oper}{ops:Array Oper}{a:Act}{j t:Nat}{U':Bool}(h:o.guard=some (j,U'))(hj:ops.toList[j]? = some oj)(ht:oj.dst=some t) :
  (Region.wanted o (yielded ops a.tmps)=true↔a.tmps[t]? = some (.bool U')):=by
 have Yf:ops[j]? = some oj:=by simpa using hj
 simp only[Region.wanted,h,yielded,Yf,Option.bind_some,ht,beq_iff_eq];constructor;intro e;split at e;rename_i b hb;obtain rfl:=Oi e;exact hb;cases e;intro e;rw[e]
theorem fX{a:Act}{d:Nat}{x:Value}(h:d<a.tmps.size):(a.put (some d) x).tmps[d]? = some x:=by simp[Act.put,h]
theorem cr{a:Act}{d t:Nat}{x:Value}(h:d≠t):(a.put (some d) x).tmps[t]? = a.tmps[t]?:=by simp[Act.put,h]
theorem iS{rg:Nat}{sl:List (Nat×Slot)}{d:Nat}(h:mr rg sl d=true){s:Slot}(hl:look sl d=some s):s.rg≠rg:=by unfold mr at h;rw[hl] at h;intro e;simp only at h;rw[e,UG] at h;cases h
section
variable {PP:Program}{C:Cx PP}{Γ:List (UO C)}{nt:Nat}{w0:World}{UM ρ:Names}{a:Act}{W:World}
theorem Base.same{H:aY}{nm:Nat}{dst:Option Nat}{x:Value}{W':World}(h:Base C nt w0 UM H nm ρ a W)(g:Gr W W'):Base C nt w0 UM H nm ρ (a.put dst x) W':=
 ⟨h.mem.gr g,(h.Vg.gr g).blk,by cases dst<;>simp[Act.put,h.sz],by cases dst<;>exact h.df⟩
theorem Mem.free{nm:Nat}(h:Mem C w0 UM nm ρ W):ρ.n nm=none∧ρ.v nm=none:=by
 constructor
 ·cases hn:ρ.n nm with
  | none=>rfl
  | some b=>have:=h.dom nm b hn;omega
 cases hn:ρ.v nm with
 | none=>rfl
 | some b=>have:=(h.domv nm b hn).1;omega
theorem Base.done{H:aY}{nm:Nat}{dst:Option Nat}{x:Value}{W':World}{UL:Names}{w:Option (Nat×SB)}{fr:Bool}(h:Base C nt w0 UM H nm ρ a W)(e:WZ C ρ W nm (w.map Prod.fst) fr UL W')(hw:∀n sb,w=some (n,sb)->cS UL W' n sb)(hn:∀n sb,w=some (n,sb)->n<k9 fr nm) :
  Base C nt w0 UM (EE w H) (k9 fr nm) UL (a.put dst x) W':=by
 refine⟨h.mem.eff e λn hn'=>?_,λn sb hl=>?_,by cases dst<;>simp[Act.put,h.sz],by cases dst<;>exact h.df⟩
 ·cases w with
  | none=>cases hn'
  | some w=>obtain rfl:=Oi hn';exact hn w.1 w.2 rfl
 cases w with
 | none=>exact e.cont h.mem.hb (h.blk n sb hl) (by simp)
 | some w=>
  obtain⟨m,Vu⟩:=w;by_cases hmn:m=n;subst hmn;have hl:look ((m,Vu)::H) m=some sb:=hl;rw[af] at hl;obtain rfl:=Oi hl;exact hw m Vu rfl;have hl:look ((m,Vu)::H) n=some sb:=hl;rw[ab _ _ hmn] at hl;exact e.cont h.mem.hb (h.blk n sb hl) (by simp;exact hmn)
theorem RI.put{sl:List (Nat×Slot)}{H H':aY}{nm Vv rg k d:Nat}{rd rd':List (Nat×Nat)}{ws ws':List (Nat×Nat)}{g:List (Nat×Bool)}{v:SV}{x:Value}{UL:Names}{W':World}(h:RI C nt w0 UM ⟨sl,H,nm,rg,rd,ws⟩ ρ a W)(hl:ρ.le UL)
  (hf:mr rg sl d=true) (YR:∀p∈g,∃s',look sl p.1=some s'∧s'.rg=rg) (hv:mG UL (a.put (some d) x) g v d) (hb:Base C nt w0 UM H' Vv UL (a.put (some d) x) W') :
  RI C nt w0 UM ⟨(d,⟨rg,k,g,v⟩)::sl,H',Vv,rg,rd',ws'⟩ UL (a.put (some d) x) W':=by
 have hat:∀g':List (Nat×Bool),(∀p∈g',∃s',look sl p.1=some s'∧s'.rg=rg)->(holds (a.put (some d) x) g'↔holds a g'):=by intro g' Zl;have UR:∀p∈g',d≠p.1:=λp hp e=>(by obtain⟨s',h1,h2⟩:=Zl p hp;exact iS hf (by rw[e];exact h1) h2);exact⟨λhh p hp=>by rw[<-cr (UR p hp) (x:=x)];exact hh p hp,λhh p hp=>by rw[cr (UR p hp)];exact hh p hp⟩
 refine⟨hb,λt s hs=>?_,λt s hs hr hg=>?_,λt s hs hr=>?_,λt s hs hr p hp=>?_⟩;by_cases e:d=t;subst e;rw[af] at hs;obtain rfl:=Oi hs;exact I' _;rw[ab _ _ e] at hs;exact h.rgs t s hs;by_cases e:d=t;subst e;rw[af] at hs;obtain rfl:=Oi hs;exact Up rfl hr;rw[ab _ _ e] at hs;obtain⟨y,h1,h2⟩:=h.out t s hs hr hg;exact⟨y,bE hl _ _ h1,by rw[cr e];exact h2⟩;by_cases e:d=t;subst e;rw[af] at hs;obtain rfl:=Oi hs;exact hv;rw[ab _ _ e] at hs;obtain⟨h1,h2⟩:=h.ins t s hs hr;have hi:=hat s.g (h.cl t s hs hr);refine⟨λhh=>?_,λhh=>?_⟩;obtain⟨y,h3,h4⟩:=h1 (hi.1 hh);exact⟨y,bE hl _ _ h3,by rw[cr e];exact h4⟩;rw[cr e];exact h2 λh'=>hh (hi.2 h');have Xr:∃s',look sl p.1=some s'∧s'.rg=rg:=by by_cases e:d=t;subst e;rw[af] at hs;obtain rfl:=Oi hs;exact YR p hp;rw[ab _ _ e] at hs;exact h.cl t s hs hr p hp
 obtain⟨s',h1,h2⟩:=Xr;refine⟨s',?_,h2⟩;show look ((d,_)::sl) p.1=some s';rw[ab _ _ λe=>iS hf (by rw[e];exact h1) h2];exact h1
theorem kL{ops:Array Oper}{st:St}{o:Oper}{g:List (Nat×Bool)}(h:RI C nt w0 UM st ρ a W)(hg:guardOf false ops.toList st.rg st.sl o=some g) :
  (Region.wanted o (yielded ops a.tmps)=true↔holds a g)∧(∀p∈g,∃s',look st.sl p.1=some s'∧s'.rg=st.rg) ∧
  (holds a g->∀q∈g,∀s,look st.sl q.1=some s->∃x,den ρ s.v x∧a.tmps[q.1]? = some x):=by
 have X7:∀q:Nat×Bool,∀s,(∃s',look st.sl q.1=some s'∧s'.rg=st.rg)->look st.sl q.1=some s->a.tmps[q.1]? = some (.bool q.2)->∃x,den ρ s.v x∧a.tmps[q.1]? = some x:=by intro q s ⟨s',h1,h2⟩ hs hb;rw[h1] at hs;obtain rfl:=Oi hs;exact((h.ins q.1 s' h1 h2).of_bool hb).2
 rcases gC hg with ⟨h1,rfl⟩|⟨j,U',oj,t,s,h1,h2,h3,h4,h5,h6,rfl,-⟩
 exact⟨⟨λ_=>holds_nil a,λ_=>dT h1⟩,(λp hp=>by cases hp),(λ_ q hq=>by cases hq)⟩;have Xr:∀p∈(t,U')::s.g,∃s',look st.sl p.1=some s'∧s'.rg=st.rg:=λp hp=>by rcases UB.1 hp with rfl|hp;exact⟨s,h4,h5⟩;exact h.cl t s h4 h5 p hp
 refine⟨⟨λhw=>?_,λhh=>(eN h1 h2 h3).2 (hh _ Um)⟩,Xr,λhh q hq s' Wp=>X7 q s' (Xr q hq) Wp (hh q hq)⟩;have hb:=(eN h1 h2 h3).1 hw;have:=((h.ins t s h4 h5).of_bool hb).1;intro p hp;rcases UB.1 hp with rfl|hp;exact hb;exact this p hp
theorem kg{any:Bool}{ops heads:List Oper}{k:Nat}{o:Oper}{st UZ:St}{ob:Option Prop}(hs:gS Γ nt any ops heads k o st=some (UZ,ob)) :
  ∃g R r,guardOf any ops st.rg st.sl o=some g∧rdN any (mI any heads k st.rg st.sl o g) st.H o.op=some R∧Oj any ops k R st.ws=true∧D Γ (fzB g) (mI any heads k st.rg st.sl o g) (C8 any st.H R) st.nm o.op=some r ∧
   wrB any ops k g r.w r.fr st.nm st.rd st.ws=true∧zr nt st.rg st.sl o=true∧UZ=⟨ED st.rg k g r.v o.dst st.sl,EE r.w st.H,k9 r.fr st.nm,st.rg,Pm any k R st.rd,Lx any r.w k st.ws⟩∧ob=IX st.sl g r.ob:=by
 obtain⟨sl,H,nm,rg,rd,ws⟩:=st;unfold gS at hs;simp only at hs;split at hs;cases hs;rename_i g0 hg;split at hs;cases hs;rename_i g hlg;obtain rfl:=dj hlg;split at hs;cases hs;rename_i R hR;split at hs
 ·rename_i ob' v w fr hr hD;split at hs
  ·rename_i h1 h2;rw[iP,HQ,HP] at hs;simp only at hs;refine⟨g,R,⟨ob',v,w,fr⟩,hg,hR,hr,hD,h1,h2,?_⟩;cases any with
   | true=>
    simp only at hs;split at hs;rename_i rd' ws' l1 l2;obtain rfl:=dj l1;obtain rfl:=dj l2;obtain⟨rfl,rfl⟩:=P' (Oi hs);exact⟨rfl,rfl⟩;cases hs
   | false=>
    obtain⟨rfl,rfl⟩:=P' (Oi hs);exact⟨rfl,rfl⟩
  cases hs
 cases hs
theorem vv{any:Bool}{ops:List Oper}{k nm:Nat}{g:List (Nat×Bool)}{w:Option (Nat×SB)}{fr:Bool}{rd ws:List (Nat×Nat)}(h:wrB any ops k g w fr nm rd ws=true) :
  (w=none∧fr=false)∨∃n sb,w=some (n,sb)∧g=[]∧n<k9 fr nm∧(any=true->qw ops k n ws=true∧qw ops k n rd=true):=by
 unfold wrB at h;split at h;split at h;cases h;exact .inl ⟨rfl,rfl⟩;rename_i n sb;split at h;rename_i UY;rw[Nat.blt_eq] at UY;refine .inr ⟨n,sb,rfl,rfl,UY,λha=>?_⟩;subst ha;simp only at h;split at h;rename_i h1;exact⟨h1,h⟩;cases h;cases h
theorem kR{rg:Nat}{sl:List (Nat×Slot)}{o:Oper}(h:zr nt rg sl o=true):(wJ o.op=true->o.dst=none)∧∀d,o.dst=some d->d<nt∧mr rg sl d=true:=by unfold zr at h;split at h;rename_i hd;exact⟨λ_=>hd,λd XJ=>by rw[hd] at XJ;cases XJ⟩;rename_i d hd;split at h;rename_i h1 h2;rw[Nat.blt_eq] at h2;refine⟨λh'=>by rw[h1] at h';(cases h'),λd' XJ=>?_⟩;rw[hd] at XJ;obtain rfl:=Oi XJ;exact⟨h2,h⟩;cases h
theorem step_seq{ops:Array Oper}{heads:List Oper}{st UZ:St}{k:Nat}{o:Oper}{ob:Option Prop}(h:RI C nt w0 UM st ρ a W)(hs:gS Γ nt false ops.toList heads k o st=some (UZ,ob))(ho:nB ob)
  {K:Act->World->Prop} (hK:∀UL a' W',RI C nt w0 UM UZ UL a' W'->K a' W'):if Region.wanted o (yielded ops a.tmps)=true then cR C.P C.co o a W K else K (a.put o.dst undef) W:=by
 obtain⟨g,R,r,hg,-,-,hD,hwr,Yz,rfl,rfl⟩:=kg hs;obtain⟨c1,c2,c3⟩:=kL h hg;obtain⟨d1,d2⟩:=kR Yz;obtain⟨sl,H,nm,rg,rd,ws⟩:=st;have hD:D Γ (fzB g) (mI false heads k rg sl o g) H nm o.op=some r:=hD;have Yp:=h.base.mem.free
 -- Yb is left of X5 state when nothing is done
 have skip:¬holds a g->r.w=none∧r.fr=false:=λhn=>by
  rcases vv hwr with h1|⟨n,sb,-,rfl,-⟩
  exact h1;exact Up (holds_nil a) hn
 have hwn:∀n sb,r.w=some (n,sb)->n<k9 r.fr nm:=λn sb hw=>by
  rcases vv hwr with ⟨h1,-⟩|⟨n',Vu,h1,-,h2,-⟩
  rw[h1] at hw;cases hw;rw[h1] at hw;obtain⟨rfl,rfl⟩:=P' (Oi hw);exact h2
 have done:∀val W' UL,WZ C ρ W nm (r.w.map Prod.fst) r.fr UL W'->(∀n sb,r.w=some (n,sb)->cS UL W' n sb)->(holds a g->den UL r.v val)->(¬holds a g->val=undef)->
   RI C nt w0 UM ⟨ED rg k g r.v o.dst sl,EE r.w H,k9 r.fr nm,rg,Pm false k R rd,Lx false r.w k ws⟩ UL (a.put o.dst val) W':=by
  intro val W' UL e hc hv hu;have hb:∀dst,Base C nt w0 UM (EE r.w H) (k9 r.fr nm) UL (a.put dst val) W':=λdst=>h.base.done e hc hwn;cases hd:o.dst with
  | none=>
   refine⟨hb none,h.rgs,λt s hs hr Zl=>?_,λt s hs hr=>?_,h.cl⟩;obtain⟨x,h1,h2⟩:=h.out t s hs hr Zl;exact⟨x,bE e.le _ _ h1,h2⟩;obtain⟨h1,h2⟩:=h.ins t s hs hr;exact⟨λhh=>let ⟨x,k1,k2⟩:=h1 hh;⟨x,bE e.le _ _ k1,k2⟩,h2⟩
  | some d=>
   obtain⟨Wl,WX⟩:=d2 d hd;have Y3:d<a.tmps.size:=(by rw[h.base.sz];exact Wl);have hat:holds (a.put (some d) val) g↔holds a g:=(by have UR:∀p∈g,d≠p.1:=λp hp e=>(by obtain⟨s',h1,h2⟩:=c2 p hp;exact iS WX (by rw[e];exact h1) h2);exact⟨λhh p hp=>by rw[<-cr (UR p hp) (x:=val)];exact hh p hp,λhh p hp=>by rw[cr (UR p hp)];exact hh p hp⟩);exact h.put e.le WX c2 ⟨λhh=>⟨val,hv (hat.1 hh),fX Y3⟩,λhn=>by rw[fX Y3,hu λhh=>hn (hat.2 hh)]⟩ (hb (some d))
 split
 ·rename_i hw;have hh:=c1.1 hw;refine Ee (nm:=nm) h.base.Vg (λ_=>Yp) (mc h hh) d1 hD (Da (c3 hh) hh ho) λval W' hp=>?_;obtain⟨UL,p1,p2,p3⟩:=hp;exact hK UL _ W' (done val W' UL p1 p2 (λ_=>p3) λhn=>Up hh hn)
 rename_i hw;have hn:¬holds a g:=λhh=>hw (c1.2 hh);obtain⟨k1,k2⟩:=skip hn;have e:WZ C ρ W nm (r.w.map Prod.fst) r.fr ρ W:=by rw[k1,k2];exact WZ.uK h.base.mem.hb (Gr.refl W)
 exact hK ρ _ W (done undef W ρ e (λn sb h=>by rw[k1] at h;cases h) (λhh=>Up hh hn) λ_=>rfl)
theorem Lc{ops:Array Oper}{heads:List Oper}{st UZ:St}{k:Nat}{o:Oper}{ob:Option Prop}(h:RI C nt w0 UM st ρ a W)(hs:gS Γ nt false ops.toList heads k o st=some (UZ,ob))(hw:Region.wanted o (yielded ops a.tmps)=true):NS C.P (execOp a.eval o):=by obtain⟨g,R,r,hg,-,-,hD,-,-,-,-⟩:=kg hs;obtain⟨c1,-,-⟩:=kL h hg;exact Tf (mc h (c1.1 hw)) hD
end
section
variable {PP:Program}{C:Cx PP}{Γ:List (UO C)}{nt:Nat}
structure cH (Γ:List (UO C)) (nt:Nat) (ops heads:List Oper) (st0:St) (S:Nat->St):Prop where
 s0:S 0=st0
 run:∀(i:Nat) (o:Oper),heads[i]? = some o->∃ob,gS Γ nt true ops heads i o (S i)=some (S (i+1),ob)∧nB ob
 old:∀t s,look st0.sl t=some s->s.rg≠st0.rg
 hd:∀(i:Nat) (o:Oper),heads[i]? = some o->ops[i]? = some o
variable {ops heads:List Oper}{st0:St}{S:Nat->St}
structure One (Γ:List (UO C)) (nt:Nat) (ops heads:List Oper) (S:Nat->St) (i:Nat) (o:Oper) (g:List (Nat×Bool)) (R:List Nat) (r:DR):Prop where
 at_:heads[i]? = some o
 gd:guardOf true ops (S i).rg (S i).sl o=some g
 rd:laid (Cu (mI true heads i (S i).rg (S i).sl o g) (S i).H o.op)=some R
 rok:xt ops i (S i).ws R=true
 d:D Γ (fzB g) (mI true heads i (S i).rg (S i).sl o g) (restrict (S i).H R) (S i).nm o.op=some r
 w:wrB true ops i g r.w r.fr (S i).nm (S i).rd (S i).ws=true
 dst:zr nt (S i).rg (S i).sl o=true
 sl:(S (i+1)).sl=ED (S i).rg i g r.v o.dst (S i).sl
 H:(S (i+1)).H=EE r.w (S i).H
 nm:(S (i+1)).nm=k9 r.fr (S i).nm
 rg:(S (i+1)).rg=(S i).rg
 rds:(S (i+1)).rd=JO i R (S i).rd
 ws:(S (i+1)).ws=Lx true r.w i (S i).ws
 ob:nB (IX (S i).sl g r.ob)
theorem cH.one(F:cH Γ nt ops heads st0 S){i:Nat}(hi:i<heads.length):∃o g R r,One Γ nt ops heads S i o g R r:=by have h0:heads[i]? = some heads[i]:=UE hi;obtain⟨ob,h1,h2⟩:=F.run i heads[i] h0;obtain⟨g,R,r,k1,k2,k3,k4,k5,k6,k7,k8⟩:=kg h1;exact⟨_,g,R,r,h0,k1,k2,k3,k4,k5,k6,by rw[k7],by rw[k7],by rw[k7],by rw[k7],by rw[k7];rfl,by rw[k7],by rw[<-k8];exact h2⟩
theorem cH.cA(F:cH Γ nt ops heads st0 S){i:Nat}(hi:i<heads.length):(S (i+1)).rg=(S i).rg∧∃o,heads[i]? = some o∧((o.dst=none∧(S (i+1)).sl=(S i).sl) ∨
  ∃d g v,o.dst=some d∧mr (S i).rg (S i).sl d=true∧guardOf true ops (S i).rg (S i).sl o=some g∧(S (i+1)).sl=(d,⟨(S i).rg,i,g,v⟩)::(S i).sl):=by
 obtain⟨o,g,R,r,h⟩:=F.one hi;refine⟨h.rg,o,h.at_,?_⟩;cases hd:o.dst with
 | none=>exact .inl ⟨rfl,by rw[h.sl,hd];rfl⟩
 | some d=>exact .inr ⟨d,g,r.v,rfl,((kR h.dst).2 d hd).2,h.gd,by rw[h.sl,hd];rfl⟩
theorem cH.rg(F:cH Γ nt ops heads st0 S):∀i,i<=heads.length->(S i).rg=st0.rg
 | 0,_=>by rw[F.s0]
 | i+1,h=>by rw[(F.cA (i:=i) (by omega)).1,F.rg i (by omega)]
theorem cH.out(F:cH Γ nt ops heads st0 S):∀i,i<=heads.length->∀t s,look (S i).sl t=some s->s.rg≠st0.rg->look st0.sl t=some s
 | 0,_,t,s,hs,_=>by rwa [F.s0] at hs
 | i+1,h,t,s,hs,hr=>by obtain⟨-,o,-,⟨-,h3⟩|⟨d,g,r,-,-,-,h3⟩⟩:=F.cA (i:=i) (by omega);rw[h3] at hs;exact F.out i (by omega) t s hs hr;rw[h3] at hs;by_cases e:d=t;subst e;rw[af] at hs;obtain rfl:=Oi hs;exact Up (F.rg i (by omega)) hr;rw[ab _ _ e] at hs;exact F.out i (by omega) t s hs hr
theorem cH.ins(F:cH Γ nt ops heads st0 S):∀i,i<=heads.length->∀t s,look (S i).sl t=some s->s.rg=st0.rg->s.k<i∧∃o,heads[s.k]? = some o∧o.dst=some t
 | 0,_,t,s,hs,hr=>by rw[F.s0] at hs;exact Up hr (F.old t s hs)
 | i+1,h,t,s,hs,hr=>by obtain⟨-,o,h0,⟨-,h3⟩|⟨d,g,r,hd,-,-,h3⟩⟩:=F.cA (i:=i) (by omega);rw[h3] at hs;obtain⟨k1,k2⟩:=F.ins i (by omega) t s hs hr;exact⟨by omega,k2⟩;rw[h3] at hs;by_cases e:d=t;subst e;rw[af] at hs;obtain rfl:=Oi hs;exact⟨Nat.lt_succ_self _,_,h0,hd⟩;rw[ab _ _ e] at hs;obtain⟨k1,k2⟩:=F.ins i (by omega) t s hs hr;exact⟨by omega,k2⟩
theorem cH.up1(F:cH Γ nt ops heads st0 S){i:Nat}(h:i<heads.length){t:Nat}{s:Slot}(hs:look (S i).sl t=some s)(hr:s.rg=st0.rg):look (S (i+1)).sl t=some s:=by obtain⟨-,o,h0,⟨-,h3⟩|⟨d,g,r,hd,hf,-,h3⟩⟩:=F.cA h;rw[h3];exact hs;rw[h3,ab];exact hs;rintro rfl;exact iS hf hs (by rw[hr,F.rg i (by omega)])
theorem cH.up(F:cH Γ nt ops heads st0 S){i:Nat} : ∀{j:Nat},i<=j->j<=heads.length->∀{t:Nat} {s:Slot},look (S i).sl t=some s->s.rg=st0.rg->look (S j).sl t=some s
 | 0,h,_,t,s,hs,_=>by obtain rfl:i=0:=(by omega);exact hs
 | j+1,h,hj,t,s,hs,hr=>by rcases UD h with rfl|h;exact hs;exact F.up1 (by omega) (F.up (by omega) (by omega) hs hr) hr
theorem cH.own(F:cH Γ nt ops heads st0 S){i:Nat}{o:Oper}(ho:heads[i]? = some o){d:Nat}(hd:o.dst=some d) :
  ∃g v,guardOf true ops st0.rg (S i).sl o=some g∧look (S heads.length).sl d=some ⟨st0.rg,i,g,v⟩∧(S (i+1)).sl=(d,⟨st0.rg,i,g,v⟩)::(S i).sl:=by
 have hi:i<heads.length:=(J'.1 ho).1;obtain⟨-,o',h0,⟨h3,-⟩|⟨d',g,r,XJ,hf,k1,h3⟩⟩:=F.cA hi;rw[ho] at h0;obtain rfl:=Oi h0;rw[hd] at h3;cases h3;rw[ho] at h0;obtain rfl:=Oi h0;rw[hd] at XJ;obtain rfl:=Oi XJ;rw[F.rg i (by omega)] at k1 h3;exact⟨g,r,k1,F.up (i:=i+1) (by omega) (I' _) (by rw[h3,af]) rfl,h3⟩
theorem cH.entry(F:cH Γ nt ops heads st0 S){t:Nat}{s:Slot}(hs:look (S heads.length).sl t=some s)(hr:s.rg=st0.rg) :
  ∃o g r,heads[s.k]? = some o∧o.dst=some t∧guardOf true ops st0.rg (S s.k).sl o=some g∧s=⟨st0.rg,s.k,g,r⟩∧(S (s.k+1)).sl=(t,s)::(S s.k).sl:=by
 obtain⟨h1,o,h2,h3⟩:=F.ins _ (I' _) t s hs hr;obtain⟨g,r,h4,h5,h6⟩:=F.own h2 h3;rw[hs] at h5;have h7:=Oi h5;rw[<-h7] at h6;exact⟨o,g,r,h2,h3,h4,h7,h6⟩
theorem cH.early(F:cH Γ nt ops heads st0 S){t i:Nat}{s:Slot}(hs:look (S heads.length).sl t=some s)(hr:s.rg=st0.rg)(hi:s.k<i)(hn:i<=heads.length):look (S i).sl t=some s:=by obtain⟨o,g,r,h1,h2,h3,h4,h5⟩:=F.entry hs hr;exact F.up (i:=s.k+1) (by omega) hn (by rw[h5,af]) hr
theorem cH.atoms(F:cH Γ nt ops heads st0 S){md:Array Oper}(hmd:md.toList=ops){n:Nat} : ∀(k t:Nat) (s:Slot),s.k=k->look (S heads.length).sl t=some s->s.rg=st0.rg->
  ∀p∈s.g,∃s',look (S heads.length).sl p.1=some s'∧s'.rg=st0.rg∧s'.k<s.k∧∀listed:Array Bool,HeadInv .any md n listed->listed.getD s.k false=true->listed.getD s'.k false=true:=by
 intro k
 induction k using Nat.strongRecOn with
 | _ k ih=>
  intro t s hk hs hr p hp;obtain⟨o,g,r,h1,h2,h3,h4,-⟩:=F.entry hs hr;have YO:s.k<heads.length:=(F.ins _ (I' _) t s hs hr).1;have hg:s.g=g:=(by rw[h4]);rw[hg] at hp;rcases gC h3 with ⟨-,rfl⟩|⟨j,U',oj,u,s',e1,e2,e3,e4,e5,e6,rfl,e7⟩
  cases hp;have Wp:look (S heads.length).sl u=some s':=F.up (by omega) (I' _) e4 e5;have hj:s'.k<s.k:=(F.ins _ (by omega) u s' e4 e5).1;have YR:∀listed:Array Bool,HeadInv .any md n listed->listed.getD s.k false=true->listed.getD s'.k false=true:=(by intro listed inv hl;obtain⟨e,he,hb,hon⟩:=gu (e7 rfl);have ho:md[s.k]? = some o:=(by have:=F.hd _ _ h1;rw[<-hmd] at this;simpa using this);have:=inv.closed s.k o ho hl e he hb;rw[hon] at this;rw[e6];exact this);rcases UB.1 hp with rfl|hp;exact⟨s',Wp,e5,hj,YR⟩;obtain⟨s2,q1,q2,q4,q3⟩:=ih s'.k (by omega) u s' rfl Wp e5 p hp;exact⟨s2,q1,q2,by omega,λlisted inv hl=>q3 listed inv (YR listed inv hl)⟩
def Wr(S:Nat->St)(i m:Nat)(sb:SB):Prop:=(S (i+1)).H=(m,sb)::(S i).H
theorem Wr.uniq{i m m':Nat}{sb Vu:SB}(h:Wr S i m sb)(h':Wr S i m' Vu):m=m'∧sb=Vu:=by have e:=h.symm.trans h';injection e with e;injection e with e1 e2;exact⟨e1,e2⟩
theorem Sg{i:Nat}(h:(S (i+1)).H=(S i).H)(m:Nat)(sb:SB):¬Wr S i m sb:=λhw=>by have:=Uo List.length (h.symm.trans hw);simp at this
theorem One.wr{i:Nat}{o:Oper}{g:List (Nat×Bool)}{R:List Nat}{r:DR}(h:One Γ nt ops heads S i o g R r):(r.w=none∧r.fr=false∧∀m sb,¬Wr S i m sb) ∨
  ∃n sb,r.w=some (n,sb)∧Wr S i n sb∧g=[]∧n<k9 r.fr (S i).nm∧qw ops i n (S i).ws=true∧qw ops i n (S i).rd=true:=by
 have hH:=h.H;rcases vv h.w with ⟨h1,h2⟩|⟨n,sb,h1,h2,h3,h4⟩
 rw[h1] at hH;exact .inl ⟨h1,h2,Sg hH⟩;rw[h1] at hH;exact .inr ⟨n,sb,h1,hH,h2,h3,(h4 rfl).1,(h4 rfl).2⟩
theorem cH.nm(F:cH Γ nt ops heads st0 S){i:Nat} : ∀{j:Nat},i<=j->j<=heads.length->(S i).nm<=(S j).nm
 | 0,h,_=>by obtain rfl:i=0:=(by omega);exact I' _
 | j+1,h,hj=>by rcases UD h with rfl|h;exact I' _;have:=F.nm (i:=i) (j:=j) (by omega) (by omega);obtain⟨o,g,R,r,h1⟩:=F.one (i:=j) (by omega);rw[h1.nm];cases r.fr<;>simp only[k9]<;>omega
theorem tA{k n:Nat} : ∀{R:List Nat} {l:List (Nat×Nat)},n∈R->(n,k)∈JO k R l
 | m::r,l,h=>by rcases UB.1 h with rfl|h;exact Um;exact Ux _ (tA h)
theorem zE{k:Nat}{x:Nat×Nat} : ∀{R:List Nat} {l:List (Nat×Nat)},x∈l->x∈JO k R l
 | [],l,h=>h
 | m::r,l,h=>Ux _ (zE h)
theorem cH.wrs(F:cH Γ nt ops heads st0 S){j:Nat} : ∀{i:Nat},j<i->i<=heads.length->∀{m:Nat} {sb:SB},Wr S j m sb->(m,j)∈(S i).ws
 | 0,h,_,m,sb,_=>by omega
 | i+1,h,hi,m,sb,hw=>by
  obtain⟨o,g,R,r,h1⟩:=F.one (i:=i) (by omega);have hws:=h1.ws;rcases UD (Nat.le_of_lt_succ h) with rfl|UY
  ·rcases h1.wr with ⟨-,-,k⟩|⟨n,Vu,k1,k2,-⟩
   exact Up hw (k m sb);rw[hws,k1,(hw.uniq k2).1];exact Um
  have ih:=F.wrs UY (by omega) hw;rw[hws];cases r.w with
  | none=>exact ih
  | some w=>exact Ux _ ih
theorem cH.rds(F:cH Γ nt ops heads st0 S){x:Nat×Nat}{i:Nat} : ∀{j:Nat},i<=j->j<=heads.length->x∈(S i).rd->x∈(S j).rd
 | 0,h,_,hx=>by obtain rfl:i=0:=(by omega);exact hx
 | j+1,h,hj,hx=>by rcases UD h with rfl|h;exact hx;have ih:=F.rds (i:=i) (j:=j) (by omega) (by omega) hx;obtain⟨o,g,R,r,h1⟩:=F.one (i:=j) (by omega);rw[h1.rds];exact zE ih
theorem rm{md:Array Oper}{n:Nat}{listed:Array Bool}(inv:HeadInv .any md n listed):∀(k i j:Nat),Kj md.toList k i j=true->(∀o,md[i]? = some o->∀e∈o.after,Region.binds .any e=true->listed.getD e.on false=true)->listed.getD j false=true
 | 0,i,j,h,_=>by cases h
 | k+1,i,j,h,hw=>by simp only[Kj] at h;split at h;cases h;rename_i o ho;have Ws:md[i]? = some o:=(by simpa using ho);split at h;rename_i hwo;obtain⟨e,he,hb,hon⟩:=gu hwo;rw[<-hon];exact hw o Ws e he hb;obtain⟨e,he,hb⟩:=List.any_eq_true.1 h;simp only[Uk] at hb;have hl:=hw o Ws e (by simpa using he) hb.1;exact rm inv k e.on j hb.2 λo' ho'' e' ZN We=>inv.closed e.on o' ho'' hl e' ZN We
theorem nQ{l:List Oper}{i n:Nat} : ∀{ws:List (Nat×Nat)},qw l i n ws=true->∀j,(n,j)∈ws->Kj l 5 i j=true
 | [],_,j,hj=>by cases hj
 | (m,k)::r,h,j,hj=>by simp only[qw] at h;split at h;split at h;rename_i ha;rcases UB.1 hj with e|hj;rw[(P' e).2];exact ha;exact nQ h j hj;cases h;rename_i hb;rcases UB.1 hj with e|hj;rw[(P' e).1,UG] at hb;cases hb;exact nQ h j hj
theorem xr{l:List Oper}{i:Nat}{ws:List (Nat×Nat)} : ∀{R:List Nat},xt l i ws R=true->∀n∈R,qw l i n ws=true
 | [],_,n,hn=>by cases hn
 | m::r,h,n,hn=>by simp only[xt] at h;split at h;rename_i h1;rcases UB.1 hn with rfl|hn;exact h1;exact xr h n hn;cases h
theorem cH.order(F:cH Γ nt ops heads st0 S){md:Array Oper}(hmd:md.toList=ops){n:Nat}{listed:Array Bool}(inv:HeadInv .any md n listed){i j m:Nat}(Yy:i<j)(hj:j<heads.length)
  (h:(∃sb,Wr S i m sb)∧((∃sb,Wr S j m sb)∨(m,j)∈(S (j+1)).rd∧∃o g R r,One Γ nt ops heads S j o g R r∧m∈R)∨(m,i)∈(S (i+1)).rd∧∃sb,Wr S j m sb)
  (hw:∀o,md[j]? = some o->∀e∈o.after,Region.binds .any e=true->listed.getD e.on false=true):listed.getD i false=true:=by
 subst hmd;rcases h with ⟨⟨sb,h1⟩,⟨Vu,h2⟩|⟨-,o,g,R,r,h2,h3⟩⟩|⟨h1,Vu,h2⟩
 ·have Vm:=F.wrs (i:=j) Yy (by omega) h1;obtain⟨o,g,R,r,k1⟩:=F.one hj;rcases k1.wr with ⟨-,-,k⟩|⟨n',sb2,-,k2,-,-,k5,-⟩
  exact Up h2 (k m Vu);rw[<-(h2.uniq k2).1] at k5;exact rm inv 5 j i (nQ k5 i Vm) hw
 have Vm:=F.wrs (i:=j) Yy (by omega) h1;exact rm inv 5 j i (nQ (xr h2.rok m h3) i Vm) hw;have Vm:=F.rds (i:=i+1) (j:=j) Yy (by omega) h1;obtain⟨o,g,R,r,k1⟩:=F.one hj;rcases k1.wr with ⟨-,-,k⟩|⟨n',sb2,-,k2,-,-,-,k6⟩
 exact Up h2 (k m Vu);rw[<-(h2.uniq k2).1] at k6;exact rm inv 5 j i (nQ k6 i Vm) hw
theorem cH.heap(F:cH Γ nt ops heads st0 S):∀i,i<=heads.length->∀m sb,look (S i).H m=some sb->
  (look st0.H m=some sb∧∀j Vu,j<i->¬Wr S j m Vu)∨∃j,j<i∧Wr S j m sb∧∀j' Vu,j<j'->j'<i->¬Wr S j' m Vu
 | 0,_,m,sb,h=>by rw[F.s0] at h;exact .inl ⟨h,λj _ hj=>by omega⟩
 | i+1,hi,m,sb,h=>by
  have keep:(∀Vu,¬Wr S i m Vu)->look (S i).H m=some sb->(look st0.H m=some sb∧∀j Vu,j<i+1->¬Wr S j m Vu)∨∃j,j<i+1∧Wr S j m sb∧∀j' Vu,j<j'->j'<i+1->¬Wr S j' m Vu:=by
   intro V0 hh;rcases F.heap i (by omega) m sb hh with ⟨h1,h2⟩|⟨j,h1,h2,h3⟩
   refine .inl ⟨h1,λj Vu hj=>?_⟩;rcases UD (Nat.le_of_lt_succ hj) with rfl|hj;exact V0 Vu;exact h2 j Vu hj;refine .inr ⟨j,by omega,h2,λj' Vu hj Yf=>?_⟩;rcases UD (Nat.le_of_lt_succ Yf) with rfl|Yf;exact V0 Vu;exact h3 j' Vu hj Yf
  obtain⟨o,g,R,r,h1⟩:=F.one (i:=i) (by omega);rcases h1.wr with ⟨k1,-,k⟩|⟨n,sb2,-,hw,-⟩
  have hH:=h1.H;rw[k1] at hH;rw[hH] at h;exact keep (λVu=>k m Vu) h;have h':=h;rw[show (S (i+1)).H=(n,sb2)::(S i).H from hw] at h';by_cases e:n=m;subst e;rw[af] at h';rw[Oi h'] at hw;exact .inr ⟨i,by omega,hw,λj' _ h1 h2=>by omega⟩;rw[ab _ _ e] at h';exact keep (λVu hw'=>e (hw.uniq hw').1) h'
end
end Go.Proofs.YtgigkennhdolpaaGreatDoor
