/- A symbolic executor with lists. -/
import Derived.Test.YtmdpdknpapjchaaGreatDoorM16
set_option linter.all false
namespace Go.Proofs.YtmdpdknpapjchaaGreatDoor
section
open Go.RowKit
variable {a:Act}{ops:Array Oper}{any fr:Bool}{g:List (Nat×Bool)}{heads:List Oper}{XM XN ρ:Names}{d k nm nt rg t:Nat}{o:Oper}{ob:Option Prop}{PP:Program}{X4 st:St}{x:Value}{W' w0:World}{H:aU}{C:Cx PP}
def holds(a:Act)(g:List (Nat×Bool)):Prop:=∀p∈g,a.tmps[p.1]? = some (.bool p.2)
def nC(ρ:Names)(a:Act)(g:List (Nat×Bool))(v:SV)(t:Nat):Prop:=
 (holds a g->∃x,den ρ v x∧a.tmps[t]? = some x)∧(¬holds a g->a.tmps[t]? = some undef)
def jb(ρ:Names)(b:Nat):Prop:=(∃n,bM ρ n b)∨ρ.o b
structure BV (XN:Names) (w0 W:World):Prop where
 os:W.os=w0.os
 tape:W.tape=w0.tape
 output:W.output=w0.output
 size:w0.heap.size<=W.heap.size
 block:∀b,b<w0.heap.size->¬jb XN b->W.heap[b]? = w0.heap[b]?
theorem BV.refl(XN:Names)(w:World):BV XN w w:=⟨rfl,rfl,rfl,F2 _,λ_ _ _=>rfl⟩
theorem BV.gr{W:World}(h:BV XN w0 W)(g:Gr W W'):BV XN w0 W':=
 ⟨g.os.trans h.os,g.tape.trans h.tape,g.output.trans h.output,Nat.le_trans h.size g.size,λb hb hn=>(Below.block g b (Nat.lt_of_lt_of_le hb h.size)).trans (h.block b hb hn)⟩
theorem BV.Jb{W:World}(h:BV XN w0 W)(hn:∀b,¬jb XN b):Gr w0 W:=
 ⟨h.os,h.tape,h.output,h.size,λb hb=>h.block b hb (hn b)⟩
theorem Names.le.unD(h:ρ.YE.le XM):ρ.le XM:=⟨h.n,h.v,h.k,h.z⟩
structure Mem {PP:Program} (C:Cx PP) (w0:World) (XN:Names) (nm:Nat) (ρ:Names) (W:World):Prop where
 hb:HB C ρ W
 dom:∀n b,ρ.n n=some b->n<nm
 domv:∀e l,ρ.v e=some l->e<nm∧l.o<nm
 domk:∀m i l,ρ.k m i=some l->m<nm
 le:XN.le ρ
 old:∀n b,bM ρ n b->jb XN b∨w0.heap.size<=b
 zold:∀b i c,ρ.z b i c->XN.z b i c∨w0.heap.size<=b∨jb XN b
 keep:BV XN w0 W
theorem Mem.refl{PP:Program}{C:Cx PP}{ρ:Names}{W:World}{nm:Nat}(hb:HB C ρ W)(dom:∀n b,ρ.n n=some b->n<nm)(domv:∀e l,ρ.v e=some l->e<nm∧l.o<nm)(domk:∀m i l,ρ.k m i=some l->m<nm):Mem C W ρ.YE nm ρ W:=
 ⟨hb,dom,domv,domk,⟨λ_ _ h=>h,λ_ _ h=>h,λ_ _ _ h=>h,λ_ _ _ h=>h⟩,λn _ h=>.inl (.inl ⟨n,h⟩),λ_ _ _ h=>.inl h,.refl _ _⟩
theorem Mem.trans{PP:Program}{C:Cx PP}{w0 w1 w2:World}{YA Yj Y1:Names}{n1 n2:Nat}(h:Mem C w0 YA n1 Yj w1)(k:Mem C w1 Yj.YE n2 Y1 w2):Mem C w0 YA n2 Y1 w2:=by
 have hs:=h.keep.size;have Zg:∀b,jb Yj.YE b->jb YA b∨w0.heap.size<=b:=λb hm=>by
  rcases hm with ⟨n,hn⟩|hn
  exact h.old n b hn;exact hn.elim
 refine⟨k.hb,k.dom,k.domv,k.domk,h.le.trans k.le.unD,λn b hn=>?_,λb i c hz=>?_,⟨k.keep.os.trans h.keep.os,k.keep.tape.trans h.keep.tape,k.keep.output.trans h.keep.output,Nat.le_trans hs k.keep.size,λb hb hn=>?_⟩⟩;rcases k.old n b hn with h1|h1;exact Zg b h1;exact .inr (by omega);rcases k.zold b i c hz with h1|h1|h1;exact h.zold b i c h1;exact .inr (.inl (by omega));rcases Zg b h1 with h2|h2;exact .inr (.inr h2);exact .inr (.inl h2);have h1:¬jb Yj.YE b:=λho=>by rcases Zg b ho with h2|h2;exact hn h2;omega
 exact(k.keep.block b (by omega) h1).trans (h.keep.block b hb hn)
theorem Mem.gr{PP:Program}{C:Cx PP}{w0 W W':World}{XN ρ:Names}{nm:Nat}(h:Mem C w0 XN nm ρ W)(g:Gr W W'):Mem C w0 XN nm ρ W':=⟨h.hb.gr g,h.dom,h.domv,h.domk,h.le,h.old,h.zold,h.keep.gr g⟩
theorem Mem.eff{W:World}{wn:Option Nat}(h:Mem C w0 XN nm ρ W)(e:ZB C ρ W nm wn fr XM W')(hw:∀n,wn=some n->n<lY fr nm):Mem C w0 XN (lY fr nm) XM W':=by
 have hle:nm<=lY fr nm:=by cases fr<;>simp[lY]
 have hs:=h.keep.size;have YZ:∀n b,bM XM n b->bM ρ n b∨W.heap.size<=b:=λn b ho=>by
  rcases ho with ho|⟨ep,l,o,h1,h2,h3,h4⟩|⟨i,l,o,h1,h3,h4⟩
  ·rcases e.nn n b ho with h1|⟨-,-,-,h1⟩
   exact .inl (.inl h1);exact .inr h1
  ·rcases e.nv ep l h1 with k1|⟨-,-,k2,k3⟩
   exact .inl (.inr (.inl ⟨ep,l,o,k1,h2,h3,h4⟩));rw[<-h2];exact k3 b o h4 h3
  exact .inl (.inr (.inr ⟨i,l,o,(e.nk n i).symm.trans h1,h3,h4⟩))
 refine⟨e.hb,λn b hn=>?_,λep l hl=>?_,λm i l hl=>Nat.lt_of_lt_of_le (h.domk m i l ((e.nk m i).symm.trans hl)) hle,h.le.trans e.le,λn b hn=>?_,λb i c hz=>?_,⟨e.os.trans h.keep.os,e.tape.trans h.keep.tape,e.output.trans h.keep.output,Nat.le_trans hs e.size,λb hb hn=>?_⟩⟩
 ·rcases e.nn n b hn with h1|⟨rfl,h2,-,-⟩
  have:=h.dom n b h1;omega;rw[h2];exact Nat.lt_succ_self _
 ·rcases e.nv ep l hl with h1|⟨rfl,h2,h3,-⟩
  have:=h.domv ep l h1;omega;refine⟨by rw[h2];exact Nat.lt_succ_self _,hw _ h3⟩
 rcases YZ n b hn with h1|h1;exact h.old n b h1;exact .inr (by omega);rcases e.nz b i c hz with h1|h1;exact h.zold b i c h1;exact .inr (.inl (by omega));refine(e.block b (by omega) λn _ ho=>?_).trans (h.keep.block b hb hn);rcases h.old n b ho with h1|h1;exact hn h1;omega
structure Base {PP:Program} (C:Cx PP) (nt:Nat) (w0:World) (XN:Names) (H:aU) (nm:Nat) (ρ:Names) (a:Act) (W:World):Prop where
 mem:Mem C w0 XN nm ρ W
 blk:∀n sb,look H n=some sb->cS ρ W n sb
 sz:a.tmps.size=nt
 df:a.defers=XN.d
theorem Base.X'{W:World}(h:Base C nt w0 XN H nm ρ a W):YH C H ρ W:=⟨h.mem.hb,h.blk⟩
structure RI {PP:Program} (C:Cx PP) (nt:Nat) (w0:World) (XN:Names) (st:St) (ρ:Names) (a:Act) (W:World):Prop where
 base:Base C nt w0 XN st.H st.nm ρ a W
 rgs:∀t s,look st.sl t=some s->s.rg<=st.rg
 out:∀t s,look st.sl t=some s->s.rg≠st.rg->s.g=[]->∃x,den ρ s.v x∧a.tmps[t]? = some x
 ins:∀t s,look st.sl t=some s->s.rg=st.rg->nC ρ a s.g s.v t
 cl:∀t s,look st.sl t=some s->s.rg=st.rg->∀p∈s.g,∃s',look st.sl p.1=some s'∧s'.rg=st.rg
structure Rp {PP:Program} (C:Cx PP) (nt:Nat) (w0:World) (XN:Names) (st:St) (ρ:Names) (a:Act) (W:World):Prop where
 base:Base C nt w0 XN st.H st.nm ρ a W
 rgs:∀t s,look st.sl t=some s->s.rg<=st.rg
 cw:∀t s,look st.sl t=some s->s.g=[]->∃x,den ρ s.v x∧a.tmps[t]? = some x
theorem holds_nil(a:Act):holds a []:=λ_ h=>by cases h
theorem qu{b:Bool}(h:a.eval (.tmp t)=.bool b):a.tmps[t]? = some (.bool b):=by have h':a.tmps.getD t undef=.bool b:=h;rcases Nat.lt_or_ge t a.tmps.size with hl|hl;simpa[hl] using h';simp[Array.getElem?_eq_none hl,undef] at h'
theorem aY(h:a.tmps[t]? = some x):a.eval (.tmp t)=x:=by show a.tmps.getD t undef=x;simp[h]
theorem nC.of_bool{v:SV}{b:Bool}(h:nC ρ a g v t)(hb:a.tmps[t]? = some (.bool b)):holds a g∧∃x,den ρ v x∧a.tmps[t]? = some x:=by by_cases hh:holds a g;exact⟨hh,h.1 hh⟩;have:=h.2 hh;rw[hb] at this;simp[undef] at this
theorem Ay{sl:List (Nat×Slot)}{a:Act}{ρ:Names} : ∀{g:List (Nat×Bool)} {p:Prop},(∀q∈g,∀s,look sl q.1=some s->∃x,den ρ s.v x∧a.tmps[q.1]? = some x)->holds a g->uu sl g p->p
 | [],p,_,_,h=>h
 | (t,Ye)::r,p,hs,hh,h=>by have ih:uu sl r p->p:=Ay (λq hq=>hs q (Xm _ hq)) (λq hq=>hh q (Xm _ hq));simp only[uu] at h;split at h;exact ih h;rename_i s hl;split at h;exact ih h;rename_i b hb;refine ih (h ?_);obtain⟨x,h1,h2⟩:=hs (t,Ye) J' s hl;have h0:=SV.bool?_den hb h1;have h3:a.tmps[t]? = some (.bool Ye):=hh (t,Ye) J';have h4:a.tmps[t]? = some x:=h2;rw[h3,h0] at h4;injection h4 with h5;injection h5 with h5;exact h5.symm
theorem Fc{sl:List (Nat×Slot)}(hs:∀q∈g,∀s,look sl q.1=some s->∃x,den ρ s.v x∧a.tmps[q.1]? = some x)(hh:holds a g)(h:ox (K7 sl g ob)):ox ob:=by
 cases ob with
 | none=>trivial
 | some p=>
  cases g with
  | nil=>exact h
  | cons q r=>exact Ay hs hh h
theorem mZ{W:World}(h:RI C nt w0 XN st ρ a W){gk:List (Nat×Bool)}(hg:holds a gk) :
  lS (nE false heads k st.rg st.sl o gk) a ρ:=by
 intro ex x v e hex;rw[tI] at e;split at e;obtain rfl:=Oi e;exact jT;obtain rfl:=Oi e;rfl;obtain rfl:=Oi e;rfl;rename_i t;split at e;cases e;rename_i s hl;split at e
 ·rename_i hr;have hr:=Nb hr;split at e
  ·rename_i hsub;obtain rfl:=Oi e;obtain⟨y,h1,h2⟩:=(h.ins t s hl hr).1 (λp hp=>by
    rcases Xr.1 (oX hsub p hp) with hp|hp;exact qu (hex p hp)
    ·exact hg p hp)
   rw[aY h2];exact h1
  cases e
 rename_i hr;have hr:s.rg≠st.rg:=λe=>by rw[e,Xv] at hr;cases hr
 split at e;rename_i hgn;obtain rfl:=Oi e;obtain⟨y,h1,h2⟩:=h.out t s hl hr hgn;rw[aY h2];exact h1;cases e
theorem hU{ops:List Oper}{sl:List (Nat×Slot)}(h:guardOf any ops rg sl o=some g) :
  (o.guard=none∧g=[])∨∃j Ye oj t s,o.guard=some (j,Ye)∧ops[j]? = some oj∧oj.dst=some t∧look sl t=some s∧s.rg=rg∧s.k=j∧g=(t,Ye)::s.g∧(any=true->ic o j=true):=by
 unfold guardOf at h;split at h;rename_i hg;exact .inl ⟨hg,(Oi h).symm⟩;rename_i j Ye hg;split at h;cases h;rename_i oj hoj;split at h;cases h;rename_i t ht;split at h;cases h;rename_i s hs;split at h;rename_i h1 h2;have e1:=Nb h1;have e2:=Nb h2;split at h;split at h;rename_i hw;exact .inr ⟨j,Ye,oj,t,s,hg,hoj,ht,hs,e1,e2,(Oi h).symm,λ_=>hw⟩;cases h;exact .inr ⟨j,Ye,oj,t,s,hg,hoj,ht,hs,e1,e2,(Oi h).symm,λh=>by cases h⟩;cases h
theorem eD{y:Nat->Option Bool}(h:o.guard=none):Region.wanted o y=true:=by simp[Region.wanted,h]
theorem fh{oj:Oper}{j:Nat}{Ye:Bool}(h:o.guard=some (j,Ye))(hj:ops.toList[j]? = some oj)(ht:oj.dst=some t) :
  (Region.wanted o (yielded ops a.tmps)=true↔a.tmps[t]? = some (.bool Ye)):=by
 have hj':ops[j]? = some oj:=by simpa using hj
 simp only[Region.wanted,h,yielded,hj',Option.bind_some,ht,beq_iff_eq];constructor;intro e;split at e;rename_i b hb;obtain rfl:=Oi e;exact hb;cases e;intro e;rw[e]
theorem fO(h:d<a.tmps.size):(a.put (some d) x).tmps[d]? = some x:=by simp[Act.put,h]
theorem cB(h:d≠t):(a.put (some d) x).tmps[t]? = a.tmps[t]?:=by simp[Act.put,h]
theorem jD{sl:List (Nat×Slot)}(h:ni rg sl d=true){s:Slot}(hl:look sl d=some s):s.rg≠rg:=by unfold ni at h;rw[hl] at h;intro e;simp only at h;rw[e,Xv] at h;cases h
section
variable {Γ:List (XR C)}{W:World}
theorem Base.same{dst:Option Nat}(h:Base C nt w0 XN H nm ρ a W)(g:Gr W W'):Base C nt w0 XN H nm ρ (a.put dst x) W':=
 ⟨h.mem.gr g,(h.X'.gr g).blk,by cases dst<;>simp[Act.put,h.sz],by cases dst<;>exact h.df⟩
theorem Mem.free(h:Mem C w0 XN nm ρ W):ρ.n nm=none∧ρ.v nm=none:=by
 constructor
 ·cases hn:ρ.n nm with
  | none=>rfl
  | some b=>have:=h.dom nm b hn;omega
 cases hn:ρ.v nm with
 | none=>rfl
 | some b=>have:=(h.domv nm b hn).1;omega
theorem Base.done{dst:Option Nat}{w:Option (Nat×SB)}(h:Base C nt w0 XN H nm ρ a W)(e:ZB C ρ W nm (w.map Prod.fst) fr XM W')(hw:∀n sb,w=some (n,sb)->cS XM W' n sb)(hn:∀n sb,w=some (n,sb)->n<lY fr nm) :
  Base C nt w0 XN (GX w H) (lY fr nm) XM (a.put dst x) W':=by
 refine⟨h.mem.eff e λn hn'=>?_,λn sb hl=>?_,by cases dst<;>simp[Act.put,h.sz],by cases dst<;>exact h.df⟩
 ·cases w with
  | none=>cases hn'
  | some w=>obtain rfl:=Oi hn';exact hn w.1 w.2 rfl
 cases w with
 | none=>exact e.cont h.mem.hb (h.blk n sb hl) (by simp)
 | some w=>
  obtain⟨m,Yu⟩:=w;by_cases hmn:m=n;subst hmn;have hl:look ((m,Yu)::H) m=some sb:=hl;rw[ai] at hl;obtain rfl:=Oi hl;exact hw m Yu rfl;have hl:look ((m,Yu)::H) n=some sb:=hl;rw[ah _ _ hmn] at hl;exact e.cont h.mem.hb (h.blk n sb hl) (by simp;exact hmn)
theorem RI.put{sl:List (Nat×Slot)}{H H':aU}{nm Yl rg k d:Nat}{rd rd':List (Nat×Nat)}{ws ws':List (Nat×Nat)}{g:List (Nat×Bool)}{v:SV}{x:Value}{XM:Names}{W':World}(h:RI C nt w0 XN ⟨sl,H,nm,rg,rd,ws⟩ ρ a W)(hl:ρ.le XM)
  (hf:ni rg sl d=true) (hcl:∀p∈g,∃s',look sl p.1=some s'∧s'.rg=rg) (hv:nC XM (a.put (some d) x) g v d) (hb:Base C nt w0 XN H' Yl XM (a.put (some d) x) W') :
  RI C nt w0 XN ⟨(d,⟨rg,k,g,v⟩)::sl,H',Yl,rg,rd',ws'⟩ XM (a.put (some d) x) W':=by
 have hat:∀g':List (Nat×Bool),(∀p∈g',∃s',look sl p.1=some s'∧s'.rg=rg)->(holds (a.put (some d) x) g'↔holds a g'):=by intro g' hg';have XW:∀p∈g',d≠p.1:=λp hp e=>(by obtain⟨s',h1,h2⟩:=hg' p hp;exact jD hf (by rw[e];exact h1) h2);exact⟨λhh p hp=>by rw[<-cB (XW p hp) (x:=x)];exact hh p hp,λhh p hp=>by rw[cB (XW p hp)];exact hh p hp⟩
 refine⟨hb,λt s hs=>?_,λt s hs hr hg=>?_,λt s hs hr=>?_,λt s hs hr p hp=>?_⟩;by_cases e:d=t;subst e;rw[ai] at hs;obtain rfl:=Oi hs;exact F2 _;rw[ah _ _ e] at hs;exact h.rgs t s hs;by_cases e:d=t;subst e;rw[ai] at hs;obtain rfl:=Oi hs;exact P' rfl hr;rw[ah _ _ e] at hs;obtain⟨y,h1,h2⟩:=h.out t s hs hr hg;exact⟨y,bE hl _ _ h1,by rw[cB e];exact h2⟩;by_cases e:d=t;subst e;rw[ai] at hs;obtain rfl:=Oi hs;exact hv;rw[ah _ _ e] at hs;obtain⟨h1,h2⟩:=h.ins t s hs hr;have hi:=hat s.g (h.cl t s hs hr);refine⟨λhh=>?_,λhh=>?_⟩;obtain⟨y,h3,h4⟩:=h1 (hi.1 hh);exact⟨y,bE hl _ _ h3,by rw[cB e];exact h4⟩;rw[cB e];exact h2 λh'=>hh (hi.2 h');have hin:∃s',look sl p.1=some s'∧s'.rg=rg:=by by_cases e:d=t;subst e;rw[ai] at hs;obtain rfl:=Oi hs;exact hcl p hp;rw[ah _ _ e] at hs;exact h.cl t s hs hr p hp
 obtain⟨s',h1,h2⟩:=hin;refine⟨s',?_,h2⟩;show look ((d,_)::sl) p.1=some s';rw[ah _ _ λe=>jD hf (by rw[e];exact h1) h2];exact h1
theorem lG(h:RI C nt w0 XN st ρ a W)(hg:guardOf false ops.toList st.rg st.sl o=some g) :
  (Region.wanted o (yielded ops a.tmps)=true↔holds a g)∧(∀p∈g,∃s',look st.sl p.1=some s'∧s'.rg=st.rg) ∧
  (holds a g->∀q∈g,∀s,look st.sl q.1=some s->∃x,den ρ s.v x∧a.tmps[q.1]? = some x):=by
 have Z4:∀q:Nat×Bool,∀s,(∃s',look st.sl q.1=some s'∧s'.rg=st.rg)->look st.sl q.1=some s->a.tmps[q.1]? = some (.bool q.2)->∃x,den ρ s.v x∧a.tmps[q.1]? = some x:=by intro q s ⟨s',h1,h2⟩ hs hb;rw[h1] at hs;obtain rfl:=Oi hs;exact((h.ins q.1 s' h1 h2).of_bool hb).2
 rcases hU hg with ⟨h1,rfl⟩|⟨j,Ye,oj,t,s,h1,h2,h3,h4,h5,h6,rfl,-⟩
 exact⟨⟨λ_=>holds_nil a,λ_=>eD h1⟩,(λp hp=>by cases hp),(λ_ q hq=>by cases hq)⟩;have hin:∀p∈(t,Ye)::s.g,∃s',look st.sl p.1=some s'∧s'.rg=st.rg:=λp hp=>by rcases Xq.1 hp with rfl|hp;exact⟨s,h4,h5⟩;exact h.cl t s h4 h5 p hp
 refine⟨⟨λhw=>?_,λhh=>(fh h1 h2 h3).2 (hh _ J')⟩,hin,λhh q hq s' Zs=>Z4 q s' (hin q hq) Zs (hh q hq)⟩;have hb:=(fh h1 h2 h3).1 hw;have:=((h.ins t s h4 h5).of_bool hb).1;intro p hp;rcases Xq.1 hp with rfl|hp;exact hb;exact this p hp
theorem kX{ops:List Oper}(hs:iF Γ nt any ops heads k o st=some (X4,ob)) :
  ∃g R r,guardOf any ops st.rg st.sl o=some g∧rdN any (nE any heads k st.rg st.sl o g) st.H o.op=some R∧Q3 any ops k R st.ws=true∧D Γ (fzB g) (nE any heads k st.rg st.sl o g) (E8 any st.H R) st.nm o.op=some r ∧
   wrB any ops k g r.w r.fr st.nm st.rd st.ws=true∧Bf nt st.rg st.sl o=true∧X4=⟨GV st.rg k g r.v o.dst st.sl,GX r.w st.H,lY r.fr st.nm,st.rg,Sf any k R st.rd,Oh any r.w k st.ws⟩∧ob=K7 st.sl g r.ob:=by
 obtain⟨sl,H,nm,rg,rd,ws⟩:=st;unfold iF at hs;simp only at hs;split at hs;cases hs;rename_i g0 hg;split at hs;cases hs;rename_i g hlg;obtain rfl:=dG hlg;split at hs;cases hs;rename_i R hR;split at hs
 ·rename_i ob' v w fr hr hD;split at hs
  ·rename_i h1 h2;rw[jw,JN,JM] at hs;simp only at hs;refine⟨g,R,⟨ob',v,w,fr⟩,hg,hR,hr,hD,h1,h2,?_⟩;cases any with
   | true=>
    simp only at hs;split at hs;rename_i rd' ws' l1 l2;obtain rfl:=dG l1;obtain rfl:=dG l2;obtain⟨rfl,rfl⟩:=F7 (Oi hs);exact⟨rfl,rfl⟩;cases hs
   | false=>
    obtain⟨rfl,rfl⟩:=F7 (Oi hs);exact⟨rfl,rfl⟩
  cases hs
 cases hs
theorem xp{ops:List Oper}{w:Option (Nat×SB)}{rd ws:List (Nat×Nat)}(h:wrB any ops k g w fr nm rd ws=true) :
  (w=none∧fr=false)∨∃n sb,w=some (n,sb)∧g=[]∧n<lY fr nm∧(any=true->rK ops k n ws=true∧rK ops k n rd=true):=by
 unfold wrB at h;split at h;split at h;cases h;exact .inl ⟨rfl,rfl⟩;rename_i n sb;split at h;rename_i X0;rw[Nat.blt_eq] at X0;refine .inr ⟨n,sb,rfl,rfl,X0,λha=>?_⟩;subst ha;simp only at h;split at h;rename_i h1;exact⟨h1,h⟩;cases h;cases h
theorem lP{sl:List (Nat×Slot)}(h:Bf nt rg sl o=true):(ym o.op=true->o.dst=none)∧∀d,o.dst=some d->d<nt∧ni rg sl d=true:=by unfold Bf at h;split at h;rename_i hd;exact⟨λ_=>hd,λd hd'=>by rw[hd] at hd';cases hd'⟩;rename_i d hd;split at h;rename_i h1 h2;rw[Nat.blt_eq] at h2;refine⟨λh'=>by rw[h1] at h';(cases h'),λd' hd'=>?_⟩;rw[hd] at hd';obtain rfl:=Oi hd';exact⟨h2,h⟩;cases h
theorem step_seq(h:RI C nt w0 XN st ρ a W)(hs:iF Γ nt false ops.toList heads k o st=some (X4,ob))(ho:ox ob){K:Act->World->Prop}(hK:∀XM a' W',RI C nt w0 XN X4 XM a' W'->K a' W'):if Region.wanted o (yielded ops a.tmps)=true then c8 C.P C.co o a W K else K (a.put o.dst undef) W:=by
 obtain⟨g,R,r,hg,-,-,hD,hwr,hdst,rfl,rfl⟩:=kX hs;obtain⟨c1,c2,c3⟩:=lG h hg;obtain⟨d1,d2⟩:=lP hdst;obtain⟨sl,H,nm,rg,rd,ws⟩:=st;have hD:D Γ (fzB g) (nE false heads k rg sl o g) H nm o.op=some r:=hD;have hfree:=h.base.mem.free
 -- what is left of the state when nothing is done
 have skip:¬holds a g->r.w=none∧r.fr=false:=λhn=>by
  rcases xp hwr with h1|⟨n,sb,-,rfl,-⟩
  exact h1;exact P' (holds_nil a) hn
 have hwn:∀n sb,r.w=some (n,sb)->n<lY r.fr nm:=λn sb hw=>by
  rcases xp hwr with ⟨h1,-⟩|⟨n',Yu,h1,-,h2,-⟩
  rw[h1] at hw;cases hw;rw[h1] at hw;obtain⟨rfl,rfl⟩:=F7 (Oi hw);exact h2
 have done:∀val W' XM,ZB C ρ W nm (r.w.map Prod.fst) r.fr XM W'->(∀n sb,r.w=some (n,sb)->cS XM W' n sb)->(holds a g->den XM r.v val)->(¬holds a g->val=undef)->
   RI C nt w0 XN ⟨GV rg k g r.v o.dst sl,GX r.w H,lY r.fr nm,rg,Sf false k R rd,Oh false r.w k ws⟩ XM (a.put o.dst val) W':=by
  intro val W' XM e hc hv hu;have hb:∀dst,Base C nt w0 XN (GX r.w H) (lY r.fr nm) XM (a.put dst val) W':=λdst=>h.base.done e hc hwn;cases hd:o.dst with
  | none=>
   refine⟨hb none,h.rgs,λt s hs hr hg'=>?_,λt s hs hr=>?_,h.cl⟩;obtain⟨x,h1,h2⟩:=h.out t s hs hr hg';exact⟨x,bE e.le _ _ h1,h2⟩;obtain⟨h1,h2⟩:=h.ins t s hs hr;exact⟨λhh=>let ⟨x,k1,k2⟩:=h1 hh;⟨x,bE e.le _ _ k1,k2⟩,h2⟩
  | some d=>
   obtain⟨Zk,Zz⟩:=d2 d hd;have hdl:d<a.tmps.size:=(by rw[h.base.sz];exact Zk);have hat:holds (a.put (some d) val) g↔holds a g:=(by have XW:∀p∈g,d≠p.1:=λp hp e=>(by obtain⟨s',h1,h2⟩:=c2 p hp;exact jD Zz (by rw[e];exact h1) h2);exact⟨λhh p hp=>by rw[<-cB (XW p hp) (x:=val)];exact hh p hp,λhh p hp=>by rw[cB (XW p hp)];exact hh p hp⟩);exact h.put e.le Zz c2 ⟨λhh=>⟨val,hv (hat.1 hh),fO hdl⟩,λhn=>by rw[fO hdl,hu λhh=>hn (hat.2 hh)]⟩ (hb (some d))
 split
 ·rename_i hw;have hh:=c1.1 hw;refine Gl (nm:=nm) h.base.X' (λ_=>hfree) (mZ h hh) d1 hD (Fc (c3 hh) hh ho) λval W' hp=>?_;obtain⟨XM,p1,p2,p3⟩:=hp;exact hK XM _ W' (done val W' XM p1 p2 (λ_=>p3) λhn=>P' hh hn)
 rename_i hw;have hn:¬holds a g:=λhh=>hw (c1.2 hh);obtain⟨k1,k2⟩:=skip hn;have e:ZB C ρ W nm (r.w.map Prod.fst) r.fr ρ W:=by rw[k1,k2];exact ZB.rm h.base.mem.hb (Gr.refl W)
 exact hK ρ _ W (done undef W ρ e (λn sb h=>by rw[k1] at h;cases h) (λhh=>P' hh hn) λ_=>rfl)
theorem NN(h:RI C nt w0 XN st ρ a W)(hs:iF Γ nt false ops.toList heads k o st=some (X4,ob))(hw:Region.wanted o (yielded ops a.tmps)=true):NS C.P (execOp a.eval o):=by obtain⟨g,R,r,hg,-,-,hD,-,-,-,-⟩:=kX hs;obtain⟨c1,-,-⟩:=lG h hg;exact VT (mZ h (c1.1 hw)) hD
end
end
section
open Go.Conc Go.RowKit
variable {a:Act}{ops:Array Oper}{captured:Array Operand}{co:Bool}{fn:Fn}{q:Int}{rest:List Nat}{cap id kk len n off:Nat}{fz:Nat×Nat}{op:Op}{x y:Operand}{P:Program}{e t yt:TypeId}
def YC(n:Nat)(a:Act)(l:List (Nat×Value)):Prop:=a.tmps.size=n∧∀t v,look l t=some v->a.tmps[t]? = some v
section
variable {l:List (Nat×Value)}{t d:Nat}{v:Value}
theorem aA{α:Type}{l:List (Nat×α)}{t s:Nat}{v:α} : look ((t,v)::l) s=if t=s then some v else look l s:=by
 show (match Nat.beq t s with|true=>some v|false=>look l s)=_;by_cases e:t=s;subst e;rw[Xl rfl,Xv];rw[Xk e];have:Nat.beq t s=false:=by
  cases h:Nat.beq t s with
  | false=>rfl
  | true=>exact P' (Nb h) e
 rw[this]
theorem YC.put(h:YC n a l)(ht:t<n)(v:Value):YC n (a.put (some t) v) ((t,v)::l):=by refine⟨by show (a.tmps.setIfInBounds t v).size=n;rw[Array.size_setIfInBounds];exact h.1,λs u hs=>?_⟩;rw[aA] at hs;by_cases e:t=s;rw[Xl e] at hs;obtain rfl:=Oi hs;subst e;exact fO (by rw[h.1];exact ht);rw[Xk e] at hs;rw[cB e];exact h.2 s u hs
theorem YC.ev(h:YC n a l)(e:look l t=some v):a.eval (.tmp t)=v:=aY (h.2 t v e)
theorem YC.sub{l':List (Nat×Value)}(h:YC n a l)(hl:∀t v,look l' t=some v->look l t=some v):YC n a l':=⟨h.1,λt v e=>h.2 t v (hl t v e)⟩
end
def mX(P:Program)(a:Act)(o:Oper)(W:World)(v:Value):Prop:=NS P (execOp a.eval o)∧∀W1,Rv W W1->(execOp a.eval o).run P W1=.ok (.value v) W1
section
variable {E:Goroutine->World->Prop}{b:Frame}{k:List Item}{cs:List Frame}{W:World}{i:Nat}{o:Oper}{v:Value}
theorem gL(hE:Closed P co E){x y:Code}(h:E (G (b.at a (.code x::.code y::k)) cs) W):E (G (b.at a (.code (.seq x y)::k)) cs) W:=hE.cr rfl (λ_ _=>stepG_seq) h
theorem LF(hE:Closed P co E)(h:E (G (b.at a k) cs) W):E (G (b.at a (.code .skip::k)) cs) W:=hE.cr rfl (λ_ _=>stepG_skip) h
theorem jS(hE:Closed P co E){x:Code}(h:E (G (b.at a (.code x::.inBlock id::k)) cs) W):E (G (b.at a (.code (.block id x)::k)) cs) W:=hE.cr rfl (λ_ _=>stepG_block) h
theorem fJ(hE:Closed P co E)(h:E (G (b.at a k) cs) W):E (G (b.at a (.inBlock id::k)) cs) W:=hE.cr rfl (λ_ _=>stepG_inBlock) h
theorem LJ(hE:Closed P co E){x:Code}(h:E (G (b.at a (.code x::.inLoop x::k)) cs) W):E (G (b.at a (.code (.loop x)::k)) cs) W:=hE.cr rfl (λ_ _=>stepG_loop) h
theorem mN(hE:Closed P co E){x:Code}(h:E (G (b.at a (.code x::.inLoop x::k)) cs) W):E (G (b.at a (.inLoop x::k)) cs) W:=hE.cr rfl (λ_ _=>stepG_inLoop) h
theorem Tw(hE:Closed P co E){k':List Item}(hx:exitTo id k=some k')(h:E (G (b.at a k') cs) W):E (G (b.at a (.code (.exit id)::k)) cs) W:=hE.cr rfl (λ_ _=>stepG_exit hx) h
theorem Dh(hE:Closed P co E){c:Operand}{x y:Code}{t:Bool}(hc:a.eval c=.bool t)(h:E (G (b.at a (.code (if t then x else y)::k)) cs) W):E (G (b.at a (.code (.cond c x y)::k)) cs) W:=hE.cr rfl (λ_ _=>stepG_cond hc) h
theorem LH(hE:Closed P co E)(h:E (G (b.at a (.inRegion ops (List.range ops.size)::k)) cs) W):E (G (b.at a (.code (.region id ops false)::k)) cs) W:=hE.cr rfl (λ_ _=>stepG_region) h
theorem aw(hE:Closed P co E)(h:E (G (b.at a k) cs) W):E (G (b.at a (.inRegion ops []::k)) cs) W:=hE.cr rfl (λ_ _=>stepG_region_end) h
theorem VF(hE:Closed P co E)(h:E (G {b.at a [] with mode:=.returning} cs) W):E (G (b.at a []) cs) W:=hE.cr rfl (λ_ _=>stepG_end) h
theorem Ru(hE:Closed P co E)(hk:b.kind≠.early)(ho:ops[i]? = some o)(hw:Region.wanted o (yielded ops a.tmps)=true)(hr:mX P a o W v)(h:E (G (b.at (a.put o.dst v) (.inRegion ops rest::k)) cs) W):E (G (b.at a (.inRegion ops (i::rest)::k)) cs) W:=
 sA hE hk ho hw (K:=λa' w'=>a'=a.put o.dst v∧Rv W w') ⟨hr.1,λW1 r=>bx (hr.2 W1 r) ⟨rfl,r⟩⟩ λa' w' ⟨e,r⟩=>by rw[e];exact hE.mono h r
theorem Bd(hE:Closed P co E)(hk:b.kind≠.early)(ho:ops[i]? = some o)(hw:Region.wanted o (yielded ops a.tmps)=true)(hn:NS P (execOp a.eval o))(h:∀W1,Rv W W1->∃v W2,(execOp a.eval o).run P W1=.ok (.value v) W2∧E (G (b.at (a.put o.dst v) (.inRegion ops rest::k)) cs) W2):E (G (b.at a (.inRegion ops (i::rest)::k)) cs) W:=
 sA hE hk ho hw (K:=λa' w'=>E (G (b.at a' (.inRegion ops rest::k)) cs) w') ⟨hn,λW1 r=>by obtain⟨v,W2,h1,h2⟩:=h W1 r;exact fg h1 h2⟩ λa' w' h=>h
theorem Tv(hE:Closed P co E)(hk:b.kind≠.early)(ho:ops[i]? = some o)(hw:Region.wanted o (yielded ops a.tmps)=true)(hn:NS P (execOp a.eval o))(h:∀W1,Rv W W1->∃W2,(execOp a.eval o).run P W1=.ok .skip W2∧E (G (b.at (a.put o.dst undef) (.inRegion ops rest::k)) cs) W2):E (G (b.at a (.inRegion ops (i::rest)::k)) cs) W:=
 sA hE hk ho hw (K:=λa' w'=>E (G (b.at a' (.inRegion ops rest::k)) cs) w') ⟨hn,λW1 r=>by obtain⟨W2,h1,h2⟩:=h W1 r;unfold c8;rw[h1];exact h2⟩ λa' w' h=>h
theorem FD(hE:Closed P co E)(hk:b.kind≠.early)(ho:ops[i]? = some o)(hw:Region.wanted o (yielded ops a.tmps)=true){f:FuncId}{args:Array Value}(hn:NS P (execOp a.eval o))(hr:∀W1,Rv W W1->(execOp a.eval o).run P W1=.ok (.enter f args) W1)
  (h:E (G (Frame.enter P f args .normal) (b.at a (.inRegion ops (i::rest)::k)::cs)) W):E (G (b.at a (.inRegion ops (i::rest)::k)) cs) W:=by
 refine hE.step rfl λW1 r1=>⟨G (Frame.enter P f args .normal) (b.at a (.inRegion ops (i::rest)::k)::cs),W1,λmain S R w hv=>?_,hE.mono h r1⟩
 obtain⟨u,k1,k2,kk,k3⟩:=ck #[] hn hv (hr W1 r1);refine⟨u,_,stepG_enter ho hw hk k1,k2,kk,λe he=>?_⟩;rcases k3 e (mem_listed he) with q|q;simp at q;exact q
variable {dst:Option Tmp}{ty:TypeId}{pos:String}{after:Array Edge}{guard:Option (Nat×Bool)}
theorem jd(e:a.eval x=v):mX P a ⟨dst,.move x,ty,pos,after,guard⟩ W v:=⟨trivial,λW1 _=>by rw[<-e];exact Fv⟩
theorem qV(e:a.eval x=v):mX P a ⟨dst,.assign x,ty,pos,after,guard⟩ W v:=⟨trivial,λW1 _=>by rw[<-e];exact wZ⟩
theorem ku{op:BinOp}{kx ky:IntKind}{m n:Int}(ex:a.eval x=.int kx m)(ey:a.eval y=.int ky n)(hv:∀w,(binOp op t (.int kx m) (.int ky n)).run P w=.ok v w):mX P a ⟨dst,.binOp op t x y yt,ty,pos,after,guard⟩ W v:=
 ⟨aa (aa (oB _ _ _ _ _ _) λ_=>by rw[ex,ey];exact qe _ _ _ _ _ _) λ_=>trivial,λW1 _=>iK (by rw[ex,ey];exact kH) (by rw[ex,ey];exact hv W1)⟩
theorem FY{w:World}{b:Nat}{c:Array Value}(hb:w.heap[b]? = some (.cells c e fz))(hv:c[off]? = some v):w.cell? ⟨b,off,none⟩=some v:=by unfold World.cell?;simp only[hb];exact hv
theorem js{d:TypeDesc}{b:Nat}{c:Array Value}(hp:a.eval x=.pointer (some ⟨b,off,none⟩))(hd:P.underlying t=some d)(h1:∀fs,d≠.struct fs)(h2:∀n e,d≠.array n e)(hb:W.heap[b]? = some (.cells c e fz))(hv:c[off]? = some v):mX P a ⟨dst,.load t x,ty,pos,after,guard⟩ W v:=
 ⟨aa (qd _ _) λ_=>trivial,λW1 r=>AS hp hd h1 h2 (FY (r.heap _ _ hb) hv)⟩
theorem tp{d:TypeDesc}{i:TypeInfo}{b:Nat}{c:Array Value}{cs:List Value}(hp:a.eval x=.pointer (some ⟨b,off,none⟩))(hi:P.info? t=some i)(hd:P.underlying t=some d)(h1:(∃fs,d=.struct fs)∨∃n e,d=.array n e)(hs:i.size=cs.length)(hb:W.heap[b]? = some (.cells c e fz))(hv:∀j v,cs[j]? = some v->c[off+j]? = some v):mX P a ⟨dst,.load t x,ty,pos,after,guard⟩ W (.agg cs.toArray):=
 ⟨aa (qd _ _) λ_=>trivial,λW1 r=>AR hp hi hd h1 hs λj v hj=>by rw[bO];exact FY (r.heap _ _ hb) (hv j v hj)⟩
theorem lh{s:TypeId}{k:Nat}{fs:Array Field}{f:Field}{i:TypeInfo}{p:Addr}(hp:a.eval x=.pointer (some p))(hd:P.underlying s=some (.struct fs))(hf:fs[k]? = some f)(hi:P.info? f.type=some i)(hs:i.size≠0):mX P a ⟨dst,.fieldAddr s x k,ty,pos,after,guard⟩ W (.pointer (some (p.add f.offset))):=
 ⟨aa (by rw[hp];exact tO hd hf hi hs) λ_=>trivial,λW1 _=>AT hp hd hf hi hs⟩
theorem lj{k:Nat}{vs:Array Value}(hx:a.eval x=.tuple vs)(hv:vs[k]? = some v):mX P a ⟨dst,.extract x k,ty,pos,after,guard⟩ W v:=⟨aa (tP _ _) λ_=>trivial,λW1 _=>uK hx hv⟩
theorem lg{i:Operand}{k:Int}{b:Addr}{inf:TypeInfo}{kk:IntKind}(hx:a.eval x=.slice (some b) len cap)(hi:a.eval i=.int kk k)(hk:0<=k∧k<len)(hd:P.underlying t=some (.slice e))(XX:P.info? e=some inf) :
  mX P a ⟨dst,.indexAddr t x i,ty,pos,after,guard⟩ W (.pointer (some (b.add (k.toNat*inf.size)))):=⟨aa (tJ _ _ _) λ_=>trivial,λW1 _=>jF hx hi hk hd XX⟩
theorem vD{first:Array Operand} : mX P a ⟨dst,.makeFunc fn first captured,ty,pos,after,guard⟩ W (.func fn (first.map a.eval) (captured.map a.eval)):=⟨trivial,λW1 _=>rG⟩
theorem Ju{c:Call}{p:Option Addr}(hc:c.callee=.builtin .len)(ha:c.args=#[x])(ht:c.argTypes=#[t])(hx:a.eval x=.slice p len cap)(hd:∃e,P.underlying t=some (.slice e)):mX P a ⟨dst,.call c,ty,pos,after,guard⟩ W (goInt len):=by obtain⟨e,hd⟩:=hd;refine⟨?_,λW1 _=>?_⟩;simp only[execOp,resolve,hc];exact aa (m:=Builtin.len_ _ _ _) (Kb _ _ _) λ_=>trivial;have hl:(Builtin.len_ #[t] ty #[.slice p len cap]).run P W1=.ok (goInt len) W1:=lp rfl hd;simp only[execOp,resolve,hc,ha,ht,invoke,builtin,Xz,Xy,Xx,List.map_toArray,List.map_cons,List.map_nil,hx,hl]
end
def X6:Code->Code|.seq x _=>x|c=>c
def X3:Code->Code|.seq _ y=>y|c=>c
def lin:Code->Code|.loop x=>x|c=>c
def bin:Code->Code|.block _ x=>x|c=>c
def cn1:Code->Code|.cond _ x _=>x|c=>c
def Zj:Code->Array Oper|.region _ ops _=>ops|_=>#[]
def eK(f:Func):Code:=f.body.getD .skip
def Zl(ops:Array Oper)(i:Nat):Option (Option Tmp×Op×Option (Nat×Bool)):=(ops[i]?).map λo=>(o.dst,o.op,o.guard)
theorem dO{i:Nat}{d:Option Tmp}(h:Zl ops i=some (d,op,none)):∃ty pos after,ops[i]? = some ⟨d,op,ty,pos,after,none⟩:=by
 unfold Zl at h;cases ho:ops[i]? with
 | none=>rw[ho] at h;cases h
 | some o=>
  obtain⟨d',op',ty,pos,after,g⟩:=o;rw[ho] at h;injection h with h;injection h with h1 h2;injection h2 with h2 h3;subst h1 h2 h3;exact⟨ty,pos,after,rfl⟩
section
variable {E:Goroutine->World->Prop}{b:Frame}{k:List Item}{cs:List Frame}{W:World}{c:Code}{l:List (Nat×Value)}
theorem b7(hE:Closed P co E)(x y:Code)(hc:c=.seq x y)(h:E (G (b.at a (.code x::.code y::k)) cs) W):E (G (b.at a (.code c::k)) cs) W:=hc▸gL hE h
theorem k9(hE:Closed P co E)(hc:c=.skip)(h:E (G (b.at a k) cs) W):E (G (b.at a (.code c::k)) cs) W:=hc▸LF hE h
theorem lf(hE:Closed P co E)(id:Nat)(x:Code)(hc:c=.block id x)(h:E (G (b.at a (.code x::.inBlock id::k)) cs) W):E (G (b.at a (.code c::k)) cs) W:=hc▸jS hE h
theorem xE(hE:Closed P co E)(x:Code)(hc:c=.loop x)(h:E (G (b.at a (.code x::.inLoop x::k)) cs) W):E (G (b.at a (.code c::k)) cs) W:=hc▸LJ hE h
theorem s_exit(hE:Closed P co E)(id:Nat)(hc:c=.exit id)(k':List Item)(hx:exitTo id k=some k')(h:E (G (b.at a k') cs) W):E (G (b.at a (.code c::k)) cs) W:=hc▸Tw hE hx h
theorem s_cond(hE:Closed P co E)(t:Nat)(x y:Code)(hc:c=.cond (.tmp t) x y)(hS:YC n a l)(v:Bool)(hv:look l t=some (.bool v))(h:E (G (b.at a (.code (if v then x else y)::k)) cs) W):E (G (b.at a (.code c::k)) cs) W:=hc▸Dh hE (hS.ev hv) h
theorem aR(hE:Closed P co E)(ops:Array Oper)(id m:Nat)(hc:c=.region id ops false)(hm:ops.size=m)(h:E (G (b.at a (.inRegion ops (List.range m)::k)) cs) W):E (G (b.at a (.code c::k)) cs) W:=by subst hm;exact hc▸LH hE h
variable {i d:Nat}
def Nxt(E:Goroutine->World->Prop)(b:Frame)(k:List Item)(cs:List Frame)(ops:Array Oper)(rest:List Nat)(n d:Nat)(a:Act)(l:List (Nat×Value))(v:Value)(W:World):Prop:=
 ∀a',YC n a' ((d,v)::l)->a'.defers=a.defers->E (G (b.at a' (.inRegion ops rest::k)) cs) W
theorem iO(hE:Closed P co E)(hk:b.kind≠.early)(hO:Zl ops i=some (some d,op,none))(hS:YC n a l)(hd:d<n)(v:Value)(hr:∀ty pos after,mX P a ⟨some d,op,ty,pos,after,none⟩ W v)(h:Nxt E b k cs ops rest n d a l v W):E (G (b.at a (.inRegion ops (i::rest)::k)) cs) W:=by obtain⟨ty,pos,after,ho⟩:=dO hO;exact Ru hE hk ho rfl (hr ty pos after) (h _ (hS.put hd v) rfl)
theorem dM(hE:Closed P co E)(hk:b.kind≠.early)(hO:Zl ops i=some (some d,.move x,none))(hS:YC n a l)(hd:d<n)(v:Value)(hv:a.eval x=v)(h:Nxt E b k cs ops rest n d a l v W):E (G (b.at a (.inRegion ops (i::rest)::k)) cs) W:=
 iO hE hk hO hS hd v (λ_ _ _=>jd hv) h
theorem fN(hE:Closed P co E)(hk:b.kind≠.early)(hO:Zl ops i=some (some d,.assign x,none))(hS:YC n a l)(hd:d<n)(v:Value)(hv:a.eval x=v)(h:Nxt E b k cs ops rest n d a l v W):E (G (b.at a (.inRegion ops (i::rest)::k)) cs) W:=
 iO hE hk hO hS hd v (λ_ _ _=>qV hv) h
theorem wm(hE:Closed P co E)(hk:b.kind≠.early){p:Int}(hO:Zl ops i=some (some d,.binOp .lss t x y yt,none))(hS:YC n a l)(hd:d<n)(hx:a.eval x=.int .i64 p)(hy:a.eval y=.int .i64 q)(h:Nxt E b k cs ops rest n d a l (.bool (decide (p<q))) W):E (G (b.at a (.inRegion ops (i::rest)::k)) cs) W:=
 iO hE hk hO hS hd _ (λ_ _ _=>ku hx hy λw=>rfl) h
theorem Jq(hE:Closed P co E)(hk:b.kind≠.early){p:Int}(hO:Zl ops i=some (some d,.binOp .add t x y yt,none))(hS:YC n a l)(hd:d<n)(hx:a.eval x=.int .i64 p)(hy:a.eval y=.int .i64 q)(h:Nxt E b k cs ops rest n d a l (.int .i64 (IntKind.i64.wrap (p+q))) W):E (G (b.at a (.inRegion ops (i::rest)::k)) cs) W:=
 iO hE hk hO hS hd _ (λ_ _ _=>ku hx hy λw=>rfl) h
theorem sa(hE:Closed P co E)(hk:b.kind≠.early){dd:TypeDesc}{bb:Nat}{c:Array Value}(hO:Zl ops i=some (some d,.load t x,none))(hS:YC n a l)(hd:d<n)(hx:a.eval x=.pointer (some ⟨bb,off,none⟩))(hu:P.underlying t=some dd)(h1:∀fs,dd≠.struct fs)(h2:∀n e,dd≠.array n e)(hb:W.heap[bb]? = some (.cells c e fz))(v:Value)(hv:c[off]? = some v)(h:Nxt E b k cs ops rest n d a l v W):E (G (b.at a (.inRegion ops (i::rest)::k)) cs) W:=
 iO hE hk hO hS hd v (λ_ _ _=>js hx hu h1 h2 hb hv) h
theorem NY(hE:Closed P co E)(hk:b.kind≠.early){s:TypeId}{fs:Array Field}{f:Field}{inf:TypeInfo}{p:Addr}(hO:Zl ops i=some (some d,.fieldAddr s x kk,none))(hS:YC n a l)(hd:d<n)(hx:a.eval x=.pointer (some p))(hu:P.underlying s=some (.struct fs))(hf:fs[kk]? = some f)(hi:P.info? f.type=some inf)(hs:inf.size≠0)(h:Nxt E b k cs ops rest n d a l (.pointer (some (p.add f.offset))) W):E (G (b.at a (.inRegion ops (i::rest)::k)) cs) W:=
 iO hE hk hO hS hd _ (λ_ _ _=>lh hx hu hf hi hs) h
theorem pZ(hE:Closed P co E)(hk:b.kind≠.early){vs:Array Value}(hO:Zl ops i=some (some d,.extract x kk,none))(hS:YC n a l)(hd:d<n)(hx:a.eval x=.tuple vs)(v:Value)(hv:vs[kk]? = some v)(h:Nxt E b k cs ops rest n d a l v W):E (G (b.at a (.inRegion ops (i::rest)::k)) cs) W:=
 iO hE hk hO hS hd v (λ_ _ _=>lj hx hv) h
theorem Ep(hE:Closed P co E)(hk:b.kind≠.early){p:Option Addr}(hO:Zl ops i=some (some d,.call ⟨.builtin .len,#[x],#[t]⟩,none))(hS:YC n a l)(hd:d<n)(hx:a.eval x=.slice p len cap)(he:∃e,P.underlying t=some (.slice e))(h:Nxt E b k cs ops rest n d a l (goInt len) W):E (G (b.at a (.inRegion ops (i::rest)::k)) cs) W:=
 iO hE hk hO hS hd _ (λ_ _ _=>Ju rfl rfl rfl hx he) h
theorem CB(hE:Closed P co E)(hk:b.kind≠.early){first:Array Operand}(hO:Zl ops i=some (some d,.makeFunc fn first captured,none))(hS:YC n a l)(hd:d<n)(h:Nxt E b k cs ops rest n d a l (.func fn (first.map a.eval) (captured.map a.eval)) W):E (G (b.at a (.inRegion ops (i::rest)::k)) cs) W:=
 iO hE hk hO hS hd _ (λ_ _ _=>vD) h
end
section
variable {main:Bool}{ty:TypeId}{Wg:Nat}{S S':Goroutine->Prop}{g:Goroutine}
theorem wS{R:World->World->Prop}{D:World->World->Array Event->Prop}{S S':Goroutine->World->Prop}(hS:∀g w,S g w->S' g w):∀(n:Nat) (g:Goroutine) (w:World),Goes P main R D S n g w->Goes P main R D S' n g w
 | 0,_,_,h=>λw1 r=>hS _ _ (h w1 r)
 | n+1,g,w,h=>h.elim (λh=>.inl λw1 r=>hS _ _ (h w1 r)) λh=>.inr ⟨h.1,λw1 r=>by
   have:=h.2 w1 r;revert this;cases stepG P main g w1 with
   | go g' w' es=>exact λ⟨x,y⟩=>⟨x,wS hS n g' w' y⟩
   | _=>exact λh=>h.elim⟩
theorem ie(hS:∀g,S g->S' g)(h:Lq P main ty Wg S g):Lq P main ty Wg S' g:=h.imp λn h w hw=>wS (λg _=>hS g) n g w (h w hw)
theorem pI{m:Mark}(hS:∀g,S g->S' g)(h:AMk P main m S g):AMk P main m S' g:=⟨h.1,h.2.imp λg' h=>⟨h.1,hS _ h.2⟩⟩
theorem BI(hS:∀g,S g->S' g)(h:ALd P main ty Wg S g):ALd P main ty Wg S' g:=⟨h.1,h.2.imp λg' h=>⟨h.1,hS _ h.2⟩⟩
theorem H4(hS:∀g,S g->S' g)(h:D9 P main ty Wg S g):D9 P main ty Wg S' g:=⟨h.1,h.2.1,h.2.2.1,h.2.2.2.imp λg' h=>⟨h.1,hS _ h.2⟩⟩
theorem n5(hS:∀g,S g->S' g):∀g,kS P main ty Wg S g->kS P main ty Wg S' g:=λ_ h=>ie (λ_ h=>pI (λ_ h=>ie (λ_ h=>pI (λ_ h=>ie hS h) h) h) h) h
theorem Gp(hS:∀g,S g->S' g):∀g,QK P main ty Wg S g->QK P main ty Wg S' g:=λ_ h=>ie (λ_ h=>pI (λ_ h=>ie (λ_ h=>H4 (λ_ h=>ie (λ_ h=>BI (n5 hS) h) h) h) h) h) h
theorem Gw(hS:∀g,S g->S' g):∀g,MT P main ty Wg S g->MT P main ty Wg S' g:=λ_ h=>ie (λ_ h=>⟨h.1,h.2.1.imp λg' x=>⟨x.1,Gp hS _ x.2⟩,h.2.2.imp λg' x=>⟨x.1,ie (λ_ h=>BI (n5 hS) h) x.2⟩⟩) h
theorem Gy(hS:∀g,S g->S' g):∀g,pJ P main ty Wg S g->pJ P main ty Wg S' g:=λ_ h=>ie (λ_ h=>pI (λ_ h=>ie (λ_ h=>⟨h.1,h.2.1.imp λg' x=>⟨x.1,n5 hS _ x.2⟩,h.2.2.imp λg' x=>⟨x.1,Gw hS _ x.2⟩⟩) h) h) h
end
end
end Go.Proofs.YtmdpdknpapjchaaGreatDoor
