/- A symbolic executor with lists, 13: a row of operations, soundness. A symbolic executor with lists, 14: operations in whatever order: what is fixed ahead. -/
import Derived.Test.YtgigkennhdolpaaGreatDoorM12
namespace Go.Proofs.YtgigkennhdolpaaGreatDoor
open Go.RowKit
def holds(a:Act)(g:List (Nat×Bool)):Prop:=∀p∈g,a.tmps[p.1]? = some (.bool p.2)
def lp(ρ:Names)(a:Act)(g:List (Nat×Bool))(v:SV)(t:Nat):Prop:=
 (holds a g→∃x,den ρ v x∧a.tmps[t]? = some x)∧(¬holds a g→a.tmps[t]? = some undef)
def jU(ρ:Names)(b:Nat):Prop:=(∃n,bX ρ n b)∨ρ.o b
structure Keep (ρe:Names) (w0 W:World):Prop where
 os:W.os=w0.os
 tape:W.tape=w0.tape
 output:W.output=w0.output
 size:w0.heap.size≤W.heap.size
 block:∀b,b<w0.heap.size→¬jU ρe b→W.heap[b]? = w0.heap[b]?
theorem Keep.refl(ρe:Names)(w:World):Keep ρe w w:=⟨rfl,rfl,rfl,Nat.le_refl _,fun _ _ _=>rfl⟩
theorem Keep.gr{ρe:Names}{w0 W W':World}(h:Keep ρe w0 W)(g:Gr W W'):Keep ρe w0 W':=
 ⟨g.os.trans h.os,g.tape.trans h.tape,g.output.trans h.output,Nat.le_trans h.size g.size,fun b hb hn=>(Below.block g b (Nat.lt_of_lt_of_le hb h.size)).trans (h.block b hb hn)⟩
theorem Keep.to_gr{ρe:Names}{w0 W:World}(h:Keep ρe w0 W)(hn:∀b,¬jU ρe b):Gr w0 W:=
 ⟨h.os,h.tape,h.output,h.size,fun b hb=>h.block b hb (hn b)⟩
theorem Names.le.unD{ρ ρ':Names}(h:ρ.noD.le ρ'):ρ.le ρ':=⟨h.n,h.v,h.k,h.z⟩
structure Mem {PP:Program} (C:Cx PP) (w0:World) (ρe:Names) (nm:Nat) (ρ:Names) (W:World):Prop where
 hb:HB C ρ W
 dom:∀n b,ρ.n n=some b→n<nm
 domv:∀e l,ρ.v e=some l→e<nm∧l.o<nm
 domk:∀m i l,ρ.k m i=some l→m<nm
 le:ρe.le ρ
 old:∀n b,bX ρ n b→jU ρe b∨w0.heap.size≤b
 zold:∀b i c,ρ.z b i c→ρe.z b i c∨w0.heap.size≤b∨jU ρe b
 keep:Keep ρe w0 W
theorem Mem.refl{PP:Program}{C:Cx PP}{ρ:Names}{W:World}{nm:Nat}(hb:HB C ρ W)(dom:∀n b,ρ.n n=some b→n<nm)(domv:∀e l,ρ.v e=some l→e<nm∧l.o<nm)(domk:∀m i l,ρ.k m i=some l→m<nm):Mem C W ρ.noD nm ρ W:=
 ⟨hb,dom,domv,domk,⟨fun _ _ h=>h,fun _ _ h=>h,fun _ _ _ h=>h,fun _ _ _ h=>h⟩,fun n _ h=>.inl (.inl ⟨n,h⟩),fun _ _ _ h=>.inl h,.refl _ _⟩
theorem Mem.trans{PP:Program}{C:Cx PP}{w0 w1 w2:World}{ρ0 ρ1 ρ2:Names}{n1 n2:Nat}(h:Mem C w0 ρ0 n1 ρ1 w1)(k:Mem C w1 ρ1.noD n2 ρ2 w2):Mem C w0 ρ0 n2 ρ2 w2:=by
 have hs:=h.keep.size
 have hmine:∀b,jU ρ1.noD b→jU ρ0 b∨w0.heap.size≤b:=fun b hm=>by
  rcases hm with ⟨n,hn⟩|hn
  ·exact h.old n b hn
  ·exact hn.elim
 refine⟨k.hb,k.dom,k.domv,k.domk,h.le.trans k.le.unD,fun n b hn=>?_,fun b i c hz=>?_,⟨k.keep.os.trans h.keep.os,k.keep.tape.trans h.keep.tape,k.keep.output.trans h.keep.output,Nat.le_trans hs k.keep.size,fun b hb hn=>?_⟩⟩
 ·rcases k.old n b hn with h1|h1
  ·exact hmine b h1
  ·exact .inr (by omega)
 ·rcases k.zold b i c hz with h1|h1|h1
  ·exact h.zold b i c h1
  ·exact .inr (.inl (by omega))
  ·rcases hmine b h1 with h2|h2
   ·exact .inr (.inr h2)
   ·exact .inr (.inl h2)
 ·have h1:¬jU ρ1.noD b:=fun ho=>by
   rcases hmine b ho with h2|h2
   ·exact hn h2
   ·omega
  exact(k.keep.block b (by omega) h1).trans (h.keep.block b hb hn)
theorem Mem.gr{PP:Program}{C:Cx PP}{w0 W W':World}{ρe ρ:Names}{nm:Nat}(h:Mem C w0 ρe nm ρ W)(g:Gr W W'):Mem C w0 ρe nm ρ W':=⟨h.hb.gr g,h.dom,h.domv,h.domk,h.le,h.old,h.zold,h.keep.gr g⟩
theorem Mem.eff{PP:Program}{C:Cx PP}{w0 W W':World}{ρe ρ ρ':Names}{nm:Nat}{wn:Option Nat}{fr:Bool}(h:Mem C w0 ρe nm ρ W)(e:Eff C ρ W nm wn fr ρ' W')(hw:∀n,wn=some n→n<jT fr nm):Mem C w0 ρe (jT fr nm) ρ' W':=by
 have hle:nm≤jT fr nm:=by cases fr<;>simp[jT]
 have hs:=h.keep.size
 have hown:∀n b,bX ρ' n b→bX ρ n b∨W.heap.size≤b:=fun n b ho=>by
  rcases ho with ho|⟨ep,l,o,h1,h2,h3,h4⟩|⟨i,l,o,h1,h3,h4⟩
  ·rcases e.nn n b ho with h1|⟨-,-,-,h1⟩
   ·exact .inl (.inl h1)
   ·exact .inr h1
  ·rcases e.nv ep l h1 with k1|⟨-,-,k2,k3⟩
   ·exact .inl (.inr (.inl ⟨ep,l,o,k1,h2,h3,h4⟩))
   ·rw[←h2];exact k3 b o h4 h3
  ·exact .inl (.inr (.inr ⟨i,l,o,(e.nk n i).symm.trans h1,h3,h4⟩))
 refine⟨e.hb,fun n b hn=>?_,fun ep l hl=>?_,fun m i l hl=>Nat.lt_of_lt_of_le (h.domk m i l ((e.nk m i).symm.trans hl)) hle,h.le.trans e.le,fun n b hn=>?_,fun b i c hz=>?_,⟨e.os.trans h.keep.os,e.tape.trans h.keep.tape,e.output.trans h.keep.output,Nat.le_trans hs e.size,fun b hb hn=>?_⟩⟩
 ·rcases e.nn n b hn with h1|⟨rfl,h2,-,-⟩
  ·have:=h.dom n b h1;omega
  ·rw[h2];exact Nat.lt_succ_self _
 ·rcases e.nv ep l hl with h1|⟨rfl,h2,h3,-⟩
  ·have:=h.domv ep l h1;omega
  ·refine⟨by rw[h2];exact Nat.lt_succ_self _,hw _ h3⟩
 ·rcases hown n b hn with h1|h1
  ·exact h.old n b h1
  ·exact .inr (by omega)
 ·rcases e.nz b i c hz with h1|h1
  ·exact h.zold b i c h1
  ·exact .inr (.inl (by omega))
 ·refine(e.block b (by omega) fun n _ ho=>?_).trans (h.keep.block b hb hn)
  rcases h.old n b ho with h1|h1
  ·exact hn h1
  ·omega
structure Base {PP:Program} (C:Cx PP) (nt:Nat) (w0:World) (ρe:Names) (H:bd) (nm:Nat) (ρ:Names) (a:Act) (W:World):Prop where
 mem:Mem C w0 ρe nm ρ W
 blk:∀n sb,look H n=some sb→da ρ W n sb
 sz:a.tmps.size=nt
 df:a.defers=ρe.d
theorem Base.hok{PP:Program}{C:Cx PP}{nt:Nat}{w0:World}{ρe:Names}{H:bd}{nm:Nat}{ρ:Names}{a:Act}{W:World}(h:Base C nt w0 ρe H nm ρ a W):HOk C H ρ W:=⟨h.mem.hb,h.blk⟩
structure RI {PP:Program} (C:Cx PP) (nt:Nat) (w0:World) (ρe:Names) (st:St) (ρ:Names) (a:Act) (W:World):Prop where
 base:Base C nt w0 ρe st.H st.nm ρ a W
 rgs:∀t s,look st.sl t=some s→s.rg≤st.rg
 out:∀t s,look st.sl t=some s→s.rg≠st.rg→s.g=[]→∃x,den ρ s.v x∧a.tmps[t]? = some x
 ins:∀t s,look st.sl t=some s→s.rg=st.rg→lp ρ a s.g s.v t
 cl:∀t s,look st.sl t=some s→s.rg=st.rg→∀p∈s.g,∃s',look st.sl p.1=some s'∧s'.rg=st.rg
structure Rp {PP:Program} (C:Cx PP) (nt:Nat) (w0:World) (ρe:Names) (st:St) (ρ:Names) (a:Act) (W:World):Prop where
 base:Base C nt w0 ρe st.H st.nm ρ a W
 rgs:∀t s,look st.sl t=some s→s.rg≤st.rg
 de:∀t s,look st.sl t=some s→s.g=[]→∃x,den ρ s.v x∧a.tmps[t]? = some x
theorem holds_nil(a:Act):holds a []:=fun _ h=>by cases h
theorem nQ{a:Act}{t:Nat}{b:Bool}(h:a.eval (.tmp t)=.bool b):a.tmps[t]? = some (.bool b):=by
 have h':a.tmps.getD t undef=.bool b:=h
 rcases Nat.lt_or_ge t a.tmps.size with hl|hl
 ·simpa[hl] using h'
 ·simp[Array.getElem?_eq_none hl,undef] at h'
theorem bg{a:Act}{t:Nat}{x:Value}(h:a.tmps[t]? = some x):a.eval (.tmp t)=x:=by
 show a.tmps.getD t undef=x
 simp[h]
theorem lp.of_bool{ρ:Names}{a:Act}{g:List (Nat×Bool)}{v:SV}{t:Nat}{b:Bool}(h:lp ρ a g v t)(hb:a.tmps[t]? = some (.bool b)):holds a g∧∃x,den ρ v x∧a.tmps[t]? = some x:=by
 by_cases hh:holds a g
 ·exact⟨hh,h.1 hh⟩
 ·have:=h.2 hh
  rw[hb] at this
  simp[undef] at this
theorem gimpP_ok{sl:List (Nat×Slot)}{a:Act}{ρ:Names} : ∀{g:List (Nat×Bool)}{p:Prop},(∀q∈g,∀s,look sl q.1=some s→∃x,den ρ s.v x∧a.tmps[q.1]? = some x)→holds a g→gimpP sl g p→p
 | [],p,_,_,h=>h
 | (t,pol)::r,p,hs,hh,h=>by
  have ih:gimpP sl r p→p:=gimpP_ok (fun q hq=>hs q (List.mem_cons_of_mem _ hq)) (fun q hq=>hh q (List.mem_cons_of_mem _ hq))
  simp only[gimpP] at h
  split at h
  ·exact ih h
  ·rename_i s hl
   split at h
   ·exact ih h
   ·rename_i b hb
    refine ih (h ?_)
    obtain⟨x,h1,h2⟩:=hs (t,pol) List.mem_cons_self s hl
    have h0:=SV.bool?_den hb h1
    have h3:a.tmps[t]? = some (.bool pol):=hh (t,pol) List.mem_cons_self
    have h4:a.tmps[t]? = some x:=h2
    rw[h3,h0] at h4
    injection h4 with h5
    injection h5 with h5
    exact h5.symm
theorem gimp_ok{sl:List (Nat×Slot)}{a:Act}{ρ:Names}{g:List (Nat×Bool)}{ob:Option Prop}(hs:∀q∈g,∀s,look sl q.1=some s→∃x,den ρ s.v x∧a.tmps[q.1]? = some x)(hh:holds a g)(h:mb (gimp sl g ob)):mb ob:=by
 cases ob with
 | none=>trivial
 | some p=>
  cases g with
  | nil=>exact h
  | cons q r=>exact gimpP_ok hs hh h
theorem kO{PP:Program}{C:Cx PP}{nt:Nat}{w0:World}{ρe:Names}{st:St}{ρ:Names}{a:Act}{W:World}(h:RI C nt w0 ρe st ρ a W){heads:List Oper}{k:Nat}{o:Oper}{gk:List (Nat×Bool)}(hg:holds a gk) :
  kM (lu false heads k st.rg st.sl o gk) a ρ:=by
 intro ex x v e hex
 rw[opIn_def] at e
 split at e
 ·obtain rfl:=Oi e
  exact iJ
 ·obtain rfl:=Oi e
  rfl
 ·obtain rfl:=Oi e
  rfl
 ·rename_i t
  split at e
  ·cases e
  ·rename_i s hl
   split at e
   ·rename_i hr
    have hr:=Nb hr
    split at e
    ·rename_i hsub
     obtain rfl:=Oi e
     obtain⟨y,h1,h2⟩:=(h.ins t s hl hr).1 (fun p hp=>by
      rcases List.mem_append.1 (mF hsub p hp) with hp|hp
      ·exact nQ (hex p hp)
      ·exact hg p hp)
     rw[bg h2];exact h1
    ·cases e
   ·rename_i hr
    have hr:s.rg≠st.rg:=fun e=>by rw[e,Nat.beq_refl] at hr;cases hr
    split at e
    ·rename_i hgn
     obtain rfl:=Oi e
     obtain⟨y,h1,h2⟩:=h.out t s hl hr hgn
     rw[bg h2];exact h1
    ·cases e
theorem fZ{any:Bool}{ops:List Oper}{rg:Nat}{sl:List (Nat×Slot)}{o:Oper}{g:List (Nat×Bool)}(h:guardOf any ops rg sl o=some g) :
  (o.guard=none∧g=[])∨∃j pol oj t s,o.guard=some (j,pol)∧ops[j]? = some oj∧oj.dst=some t∧look sl t=some s∧s.rg=rg∧s.k=j∧g=(t,pol)::s.g∧(any=true→ga o j=true):=by
 unfold guardOf at h
 split at h
 ·rename_i hg
  exact .inl ⟨hg,(Oi h).symm⟩
 ·rename_i j pol hg
  split at h
  ·cases h
  ·rename_i oj hoj
   split at h
   ·cases h
   ·rename_i t ht
    split at h
    ·cases h
    ·rename_i s hs
     split at h
     ·rename_i h1 h2
      have e1:=Nb h1
      have e2:=Nb h2
      split at h
      ·split at h
       ·rename_i hw
        exact .inr ⟨j,pol,oj,t,s,hg,hoj,ht,hs,e1,e2,(Oi h).symm,fun _=>hw⟩
       ·cases h
      ·exact .inr ⟨j,pol,oj,t,s,hg,hoj,ht,hs,e1,e2,(Oi h).symm,fun h=>by cases h⟩
     ·cases h
theorem fb{o:Oper}{y:Nat→Option Bool}(h:o.guard=none):Region.wanted o y=true:=by simp[Region.wanted,h]
theorem dY{o oj:Oper}{ops:Array Oper}{a:Act}{j t:Nat}{pol:Bool}(h:o.guard=some (j,pol))(hj:ops.toList[j]? = some oj)(ht:oj.dst=some t) :
  (Region.wanted o (yielded ops a.tmps)=true↔a.tmps[t]? = some (.bool pol)):=by
 have hj':ops[j]? = some oj:=by simpa using hj
 simp only[Region.wanted,h,yielded,hj',Option.bind_some,ht,beq_iff_eq]
 constructor
 ·intro e
  split at e
  ·rename_i b hb
   obtain rfl:=Oi e
   exact hb
  ·cases e
 ·intro e
  rw[e]
theorem fG{a:Act}{d:Nat}{x:Value}(h:d<a.tmps.size):(a.put (some d) x).tmps[d]? = some x:=by simp[Act.put,h]
theorem cn{a:Act}{d t:Nat}{x:Value}(h:d≠t):(a.put (some d) x).tmps[t]? = a.tmps[t]?:=by simp[Act.put,h]
theorem ie{rg:Nat}{sl:List (Nat×Slot)}{d:Nat}(h:kX rg sl d=true){s:Slot}(hl:look sl d=some s):s.rg≠rg:=by
 unfold kX at h
 rw[hl] at h
 intro e
 simp only at h
 rw[e,Nat.beq_refl] at h
 cases h
section
variable {PP:Program}{C:Cx PP}{Γ:List (Con C)}{nt:Nat}{w0:World}{ρe ρ:Names}{a:Act}{W:World}
theorem Base.same{H:bd}{nm:Nat}{dst:Option Nat}{x:Value}{W':World}(h:Base C nt w0 ρe H nm ρ a W)(g:Gr W W'):Base C nt w0 ρe H nm ρ (a.put dst x) W':=
 ⟨h.mem.gr g,(h.hok.gr g).blk,by cases dst<;>simp[Act.put,h.sz],by cases dst<;>exact h.df⟩
theorem Mem.free{nm:Nat}(h:Mem C w0 ρe nm ρ W):ρ.n nm=none∧ρ.v nm=none:=by
 constructor
 ·cases hn:ρ.n nm with
  | none=>rfl
  | some b=>have:=h.dom nm b hn;omega
 ·cases hn:ρ.v nm with
  | none=>rfl
  | some b=>have:=(h.domv nm b hn).1;omega
theorem Base.done{H:bd}{nm:Nat}{dst:Option Nat}{x:Value}{W':World}{ρ':Names}{w:Option (Nat×SB)}{fr:Bool}(h:Base C nt w0 ρe H nm ρ a W)(e:Eff C ρ W nm (w.map Prod.fst) fr ρ' W')(hw:∀n sb,w=some (n,sb)→da ρ' W' n sb)(hn:∀n sb,w=some (n,sb)→n<jT fr nm) :
  Base C nt w0 ρe (putH w H) (jT fr nm) ρ' (a.put dst x) W':=by
 refine⟨h.mem.eff e fun n hn'=>?_,fun n sb hl=>?_,by cases dst<;>simp[Act.put,h.sz],by cases dst<;>exact h.df⟩
 ·cases w with
  | none=>cases hn'
  | some w=>obtain rfl:=Oi hn';exact hn w.1 w.2 rfl
 ·cases w with
  | none=>exact e.cont h.mem.hb (h.blk n sb hl) (by simp)
  | some w=>
   obtain⟨m,sb'⟩:=w
   by_cases hmn:m=n
   ·subst hmn
    have hl:look ((m,sb')::H) m=some sb:=hl
    rw[af] at hl
    obtain rfl:=Oi hl
    exact hw m sb' rfl
   ·have hl:look ((m,sb')::H) n=some sb:=hl
    rw[ae _ _ hmn] at hl
    exact e.cont h.mem.hb (h.blk n sb hl) (by simp;exact hmn)
theorem RI.put{sl:List (Nat×Slot)}{H H':bd}{nm nm' rg k d:Nat}{rd rd':List (Nat×Nat)}{ws ws':List (Nat×Nat)}{g:List (Nat×Bool)}{v:SV}{x:Value}{ρ':Names}{W':World}(h:RI C nt w0 ρe ⟨sl,H,nm,rg,rd,ws⟩ ρ a W)(hl:ρ.le ρ')
  (hf:kX rg sl d=true) (hcl:∀p∈g,∃s',look sl p.1=some s'∧s'.rg=rg) (hv:lp ρ' (a.put (some d) x) g v d) (hb:Base C nt w0 ρe H' nm' ρ' (a.put (some d) x) W') :
  RI C nt w0 ρe ⟨(d,⟨rg,k,g,v⟩)::sl,H',nm',rg,rd',ws'⟩ ρ' (a.put (some d) x) W':=by
 have hat:∀g':List (Nat×Bool),(∀p∈g',∃s',look sl p.1=some s'∧s'.rg=rg)→(holds (a.put (some d) x) g'↔holds a g'):=by
  intro g' hg'
  have hne:∀p∈g',d≠p.1:=fun p hp e=>by
   obtain⟨s',h1,h2⟩:=hg' p hp
   exact ie hf (by rw[e];exact h1) h2
  exact⟨fun hh p hp=>by rw[←cn (hne p hp) (x:=x)];exact hh p hp,fun hh p hp=>by rw[cn (hne p hp)];exact hh p hp⟩
 refine⟨hb,fun t s hs=>?_,fun t s hs hr hg=>?_,fun t s hs hr=>?_,fun t s hs hr p hp=>?_⟩
 ·by_cases e:d=t
  ·subst e
   rw[af] at hs
   obtain rfl:=Oi hs
   exact Nat.le_refl _
  ·rw[ae _ _ e] at hs
   exact h.rgs t s hs
 ·by_cases e:d=t
  ·subst e
   rw[af] at hs
   obtain rfl:=Oi hs
   exact absurd rfl hr
  ·rw[ae _ _ e] at hs
   obtain⟨y,h1,h2⟩:=h.out t s hs hr hg
   exact⟨y,bF hl _ _ h1,by rw[cn e];exact h2⟩
 ·by_cases e:d=t
  ·subst e
   rw[af] at hs
   obtain rfl:=Oi hs
   exact hv
  ·rw[ae _ _ e] at hs
   obtain⟨h1,h2⟩:=h.ins t s hs hr
   have hi:=hat s.g (h.cl t s hs hr)
   refine⟨fun hh=>?_,fun hh=>?_⟩
   ·obtain⟨y,h3,h4⟩:=h1 (hi.1 hh)
    exact⟨y,bF hl _ _ h3,by rw[cn e];exact h4⟩
   ·rw[cn e];exact h2 fun h'=>hh (hi.2 h')
 ·have hin:∃s',look sl p.1=some s'∧s'.rg=rg:=by
   by_cases e:d=t
   ·subst e
    rw[af] at hs
    obtain rfl:=Oi hs
    exact hcl p hp
   ·rw[ae _ _ e] at hs
    exact h.cl t s hs hr p hp
  obtain⟨s',h1,h2⟩:=hin
  refine⟨s',?_,h2⟩
  show look ((d,_)::sl) p.1=some s'
  rw[ae _ _ fun e=>ie hf (by rw[e];exact h1) h2]
  exact h1
theorem jH{ops:Array Oper}{st:St}{o:Oper}{g:List (Nat×Bool)}(h:RI C nt w0 ρe st ρ a W)(hg:guardOf false ops.toList st.rg st.sl o=some g) :
  (Region.wanted o (yielded ops a.tmps)=true↔holds a g)∧(∀p∈g,∃s',look st.sl p.1=some s'∧s'.rg=st.rg) ∧
  (holds a g→∀q∈g,∀s,look st.sl q.1=some s→∃x,den ρ s.v x∧a.tmps[q.1]? = some x):=by
 have hsl:∀q:Nat×Bool,∀s,(∃s',look st.sl q.1=some s'∧s'.rg=st.rg)→look st.sl q.1=some s→a.tmps[q.1]? = some (.bool q.2)→∃x,den ρ s.v x∧a.tmps[q.1]? = some x:=by
  intro q s ⟨s',h1,h2⟩ hs hb
  rw[h1] at hs
  obtain rfl:=Oi hs
  exact((h.ins q.1 s' h1 h2).of_bool hb).2
 rcases fZ hg with ⟨h1,rfl⟩|⟨j,pol,oj,t,s,h1,h2,h3,h4,h5,h6,rfl,-⟩
 ·exact⟨⟨fun _=>holds_nil a,fun _=>fb h1⟩,(fun p hp=>by cases hp),(fun _ q hq=>by cases hq)⟩
 ·have hin:∀p∈(t,pol)::s.g,∃s',look st.sl p.1=some s'∧s'.rg=st.rg:=fun p hp=>by
   rcases List.mem_cons.1 hp with rfl|hp
   ·exact⟨s,h4,h5⟩
   ·exact h.cl t s h4 h5 p hp
  refine⟨⟨fun hw=>?_,fun hh=>(dY h1 h2 h3).2 (hh _ List.mem_cons_self)⟩,hin,fun hh q hq s' hs'=>hsl q s' (hin q hq) hs' (hh q hq)⟩
  have hb:=(dY h1 h2 h3).1 hw
  have:=((h.ins t s h4 h5).of_bool hb).1
  intro p hp
  rcases List.mem_cons.1 hp with rfl|hp
  ·exact hb
  ·exact this p hp
theorem jq{any:Bool}{ops heads:List Oper}{k:Nat}{o:Oper}{st st':St}{ob:Option Prop}(hs:jr Γ nt any ops heads k o st=some (st',ob)) :
  ∃g R r,guardOf any ops st.rg st.sl o=some g∧rdN any (lu any heads k st.rg st.sl o g) st.H o.op=some R∧rdsOk any ops k R st.ws=true∧D Γ (fzB g) (lu any heads k st.rg st.sl o g) (heapFor any st.H R) st.nm o.op=some r ∧
   wrB any ops k g r.w r.fr st.nm st.rd st.ws=true∧dstB nt st.rg st.sl o=true∧st'=⟨putS st.rg k g r.v o.dst st.sl,putH r.w st.H,jT r.fr st.nm,st.rg,putR any k R st.rd,putW any r.w k st.ws⟩∧ob=gimp st.sl g r.ob:=by
 obtain⟨sl,H,nm,rg,rd,ws⟩:=st
 unfold jr at hs
 simp only at hs
 split at hs
 ·cases hs
 rename_i g0 hg
 split at hs
 ·cases hs
 rename_i g hlg
 obtain rfl:=cZ hlg
 split at hs
 ·cases hs
 rename_i R hR
 split at hs
 ·rename_i ob' v w fr hr hD
  split at hs
  ·rename_i h1 h2
   rw[ib,putHf_eq,putNf_eq] at hs
   simp only at hs
   refine⟨g,R,⟨ob',v,w,fr⟩,hg,hR,hr,hD,h1,h2,?_⟩
   cases any with
   | true=>
    simp only at hs
    split at hs
    ·rename_i rd' ws' l1 l2
     obtain rfl:=cZ l1
     obtain rfl:=cZ l2
     obtain⟨rfl,rfl⟩:=Prod.mk.inj (Oi hs)
     exact⟨rfl,rfl⟩
    ·cases hs
   | false=>
    obtain⟨rfl,rfl⟩:=Prod.mk.inj (Oi hs)
    exact⟨rfl,rfl⟩
  ·cases hs
 ·cases hs
theorem wrB_ok{any:Bool}{ops:List Oper}{k nm:Nat}{g:List (Nat×Bool)}{w:Option (Nat×SB)}{fr:Bool}{rd ws:List (Nat×Nat)}(h:wrB any ops k g w fr nm rd ws=true) :
  (w=none∧fr=false)∨∃n sb,w=some (n,sb)∧g=[]∧n<jT fr nm∧(any=true→oT ops k n ws=true∧oT ops k n rd=true):=by
 unfold wrB at h
 split at h
 ·split at h
  ·cases h
  ·exact .inl ⟨rfl,rfl⟩
 ·rename_i n sb
  split at h
  ·rename_i hlt
   rw[Nat.blt_eq] at hlt
   refine .inr ⟨n,sb,rfl,rfl,hlt,fun ha=>?_⟩
   subst ha
   simp only at h
   split at h
   ·rename_i h1;exact⟨h1,h⟩
   ·cases h
  ·cases h
theorem jN{rg:Nat}{sl:List (Nat×Slot)}{o:Oper}(h:dstB nt rg sl o=true):(isStore o.op=true→o.dst=none)∧∀d,o.dst=some d→d<nt∧kX rg sl d=true:=by
 unfold dstB at h
 split at h
 ·rename_i hd
  exact⟨fun _=>hd,fun d hd'=>by rw[hd] at hd';cases hd'⟩
 ·rename_i d hd
  split at h
  ·rename_i h1 h2
   rw[Nat.blt_eq] at h2
   refine⟨fun h'=>by rw[h1] at h';(cases h'),fun d' hd'=>?_⟩
   rw[hd] at hd'
   obtain rfl:=Oi hd'
   exact⟨h2,h⟩
  ·cases h
theorem step_seq{ops:Array Oper}{heads:List Oper}{st st':St}{k:Nat}{o:Oper}{ob:Option Prop}  (h:RI C nt w0 ρe st ρ a W)(hs:jr Γ nt false ops.toList heads k o st=some (st',ob))(ho:mb ob)
  {K:Act→World→Prop} (hK:∀ρ' a' W',RI C nt w0 ρe st' ρ' a' W'→K a' W'):if Region.wanted o (yielded ops a.tmps)=true then dC C.P C.co o a W K else K (a.put o.dst undef) W:=by
 obtain⟨g,R,r,hg,-,-,hD,hwr,hdst,rfl,rfl⟩:=jq hs
 obtain⟨c1,c2,c3⟩:=jH h hg
 obtain⟨d1,d2⟩:=jN hdst
 obtain⟨sl,H,nm,rg,rd,ws⟩:=st
 have hD:D Γ (fzB g) (lu false heads k rg sl o g) H nm o.op=some r:=hD
 have hfree:=h.base.mem.free
 -- what is left of the state when nothing is done
 have skip:¬holds a g→r.w=none∧r.fr=false:=fun hn=>by
  rcases wrB_ok hwr with h1|⟨n,sb,-,rfl,-⟩
  ·exact h1
  ·exact absurd (holds_nil a) hn
 have hwn:∀n sb,r.w=some (n,sb)→n<jT r.fr nm:=fun n sb hw=>by
  rcases wrB_ok hwr with ⟨h1,-⟩|⟨n',sb',h1,-,h2,-⟩
  ·rw[h1] at hw;cases hw
  ·rw[h1] at hw
   obtain⟨rfl,rfl⟩:=Prod.mk.inj (Oi hw)
   exact h2
 have done:∀val W' ρ',Eff C ρ W nm (r.w.map Prod.fst) r.fr ρ' W'→(∀n sb,r.w=some (n,sb)→da ρ' W' n sb)→(holds a g→den ρ' r.v val)→(¬holds a g→val=undef)→
   RI C nt w0 ρe ⟨putS rg k g r.v o.dst sl,putH r.w H,jT r.fr nm,rg,putR false k R rd,putW false r.w k ws⟩ ρ' (a.put o.dst val) W':=by
  intro val W' ρ' e hc hv hu
  have hb:∀dst,Base C nt w0 ρe (putH r.w H) (jT r.fr nm) ρ' (a.put dst val) W':=fun dst=>h.base.done e hc hwn
  cases hd:o.dst with
  | none=>
   refine⟨hb none,h.rgs,fun t s hs hr hg'=>?_,fun t s hs hr=>?_,h.cl⟩
   ·obtain⟨x,h1,h2⟩:=h.out t s hs hr hg'
    exact⟨x,bF e.le _ _ h1,h2⟩
   ·obtain⟨h1,h2⟩:=h.ins t s hs hr
    exact⟨fun hh=>let ⟨x,k1,k2⟩:=h1 hh;⟨x,bF e.le _ _ k1,k2⟩,h2⟩
  | some d=>
   obtain⟨hd1,hfr⟩:=d2 d hd
   have hdl:d<a.tmps.size:=by rw[h.base.sz];exact hd1
   have hat:holds (a.put (some d) val) g↔holds a g:=by
    have hne:∀p∈g,d≠p.1:=fun p hp e=>by
     obtain⟨s',h1,h2⟩:=c2 p hp
     exact ie hfr (by rw[e];exact h1) h2
    exact⟨fun hh p hp=>by rw[←cn (hne p hp) (x:=val)];exact hh p hp,fun hh p hp=>by rw[cn (hne p hp)];exact hh p hp⟩
   exact h.put e.le hfr c2 ⟨fun hh=>⟨val,hv (hat.1 hh),fG hdl⟩,fun hn=>by rw[fG hdl,hu fun hh=>hn (hat.2 hh)]⟩ (hb (some d))
 split
 ·rename_i hw
  have hh:=c1.1 hw
  refine D_sound (nm:=nm) h.base.hok (fun _=>hfree) (kO h hh) d1 hD (gimp_ok (c3 hh) hh ho) fun val W' hp=>?_
  obtain⟨ρ',p1,p2,p3⟩:=hp
  exact hK ρ' _ W' (done val W' ρ' p1 p2 (fun _=>p3) fun hn=>absurd hh hn)
 ·rename_i hw
  have hn:¬holds a g:=fun hh=>hw (c1.2 hh)
  obtain⟨k1,k2⟩:=skip hn
  have e:Eff C ρ W nm (r.w.map Prod.fst) r.fr ρ W:=by rw[k1,k2];exact Eff.of_gr h.base.mem.hb (Gr.refl W)
  exact hK ρ _ W (done undef W ρ e (fun n sb h=>by rw[k1] at h;cases h) (fun hh=>absurd hh hn) fun _=>rfl)
theorem step_ns{ops:Array Oper}{heads:List Oper}{st st':St}{k:Nat}{o:Oper}{ob:Option Prop}(h:RI C nt w0 ρe st ρ a W)(hs:jr Γ nt false ops.toList heads k o st=some (st',ob))(hw:Region.wanted o (yielded ops a.tmps)=true):NS C.P (execOp a.eval o):=by
 obtain⟨g,R,r,hg,-,-,hD,-,-,-,-⟩:=jq hs
 obtain⟨c1,-,-⟩:=jH h hg
 exact D_ns (kO h (c1.1 hw)) hD
end
section
variable {PP:Program}{C:Cx PP}{Γ:List (Con C)}{nt:Nat}
structure cC (Γ:List (Con C)) (nt:Nat) (ops heads:List Oper) (st0:St) (S:Nat→St):Prop where
 s0:S 0=st0
 run:∀(i:Nat) (o:Oper),heads[i]? = some o→∃ob,jr Γ nt true ops heads i o (S i)=some (S (i+1),ob)∧mb ob
 old:∀t s,look st0.sl t=some s→s.rg≠st0.rg
 hd:∀(i:Nat) (o:Oper),heads[i]? = some o→ops[i]? = some o
variable {ops heads:List Oper}{st0:St}{S:Nat→St}
structure One (Γ:List (Con C)) (nt:Nat) (ops heads:List Oper) (S:Nat→St) (i:Nat) (o:Oper) (g:List (Nat×Bool)) (R:List Nat) (r:DR):Prop where
 at_:heads[i]? = some o
 gd:guardOf true ops (S i).rg (S i).sl o=some g
 rd:laid (readsOp (lu true heads i (S i).rg (S i).sl o g) (S i).H o.op)=some R
 rok:wsAll ops i (S i).ws R=true
 d:D Γ (fzB g) (lu true heads i (S i).rg (S i).sl o g) (restrict (S i).H R) (S i).nm o.op=some r
 w:wrB true ops i g r.w r.fr (S i).nm (S i).rd (S i).ws=true
 dst:dstB nt (S i).rg (S i).sl o=true
 sl:(S (i+1)).sl=putS (S i).rg i g r.v o.dst (S i).sl
 H:(S (i+1)).H=putH r.w (S i).H
 nm:(S (i+1)).nm=jT r.fr (S i).nm
 rg:(S (i+1)).rg=(S i).rg
 rds:(S (i+1)).rd=conR i R (S i).rd
 ws:(S (i+1)).ws=putW true r.w i (S i).ws
 ob:mb (gimp (S i).sl g r.ob)
theorem cC.one(F:cC Γ nt ops heads st0 S){i:Nat}(hi:i<heads.length):∃o g R r,One Γ nt ops heads S i o g R r:=by
 have h0:heads[i]? = some heads[i]:=List.getElem?_eq_getElem hi
 obtain⟨ob,h1,h2⟩:=F.run i heads[i] h0
 obtain⟨g,R,r,k1,k2,k3,k4,k5,k6,k7,k8⟩:=jq h1
 exact⟨_,g,R,r,h0,k1,k2,k3,k4,k5,k6,by rw[k7],by rw[k7],by rw[k7],by rw[k7],by rw[k7];rfl,by rw[k7],by rw[←k8];exact h2⟩
theorem cC.de(F:cC Γ nt ops heads st0 S){i:Nat}(hi:i<heads.length):(S (i+1)).rg=(S i).rg∧∃o,heads[i]? = some o∧((o.dst=none∧(S (i+1)).sl=(S i).sl) ∨
  ∃d g v,o.dst=some d∧kX (S i).rg (S i).sl d=true∧guardOf true ops (S i).rg (S i).sl o=some g∧(S (i+1)).sl=(d,⟨(S i).rg,i,g,v⟩)::(S i).sl):=by
 obtain⟨o,g,R,r,h⟩:=F.one hi
 refine⟨h.rg,o,h.at_,?_⟩
 cases hd:o.dst with
 | none=>exact .inl ⟨rfl,by rw[h.sl,hd];rfl⟩
 | some d=>exact .inr ⟨d,g,r.v,rfl,((jN h.dst).2 d hd).2,h.gd,by rw[h.sl,hd];rfl⟩
theorem cC.rg(F:cC Γ nt ops heads st0 S):∀i,i≤heads.length→(S i).rg=st0.rg
 | 0,_=>by rw[F.s0]
 | i+1,h=>by rw[(F.de (i:=i) (by omega)).1,F.rg i (by omega)]
theorem cC.out(F:cC Γ nt ops heads st0 S):∀i,i≤heads.length→∀t s,look (S i).sl t=some s→s.rg≠st0.rg→look st0.sl t=some s
 | 0,_,t,s,hs,_=>by rwa [F.s0] at hs
 | i+1,h,t,s,hs,hr=>by
  obtain⟨-,o,-,⟨-,h3⟩|⟨d,g,r,-,-,-,h3⟩⟩:=F.de (i:=i) (by omega)
  ·rw[h3] at hs
   exact F.out i (by omega) t s hs hr
  ·rw[h3] at hs
   by_cases e:d=t
   ·subst e
    rw[af] at hs
    obtain rfl:=Oi hs
    exact absurd (F.rg i (by omega)) hr
   ·rw[ae _ _ e] at hs
    exact F.out i (by omega) t s hs hr
theorem cC.ins(F:cC Γ nt ops heads st0 S):∀i,i≤heads.length→∀t s,look (S i).sl t=some s→s.rg=st0.rg→s.k<i∧∃o,heads[s.k]? = some o∧o.dst=some t
 | 0,_,t,s,hs,hr=>by rw[F.s0] at hs;exact absurd hr (F.old t s hs)
 | i+1,h,t,s,hs,hr=>by
  obtain⟨-,o,h0,⟨-,h3⟩|⟨d,g,r,hd,-,-,h3⟩⟩:=F.de (i:=i) (by omega)
  ·rw[h3] at hs
   obtain⟨k1,k2⟩:=F.ins i (by omega) t s hs hr
   exact⟨by omega,k2⟩
  ·rw[h3] at hs
   by_cases e:d=t
   ·subst e
    rw[af] at hs
    obtain rfl:=Oi hs
    exact⟨Nat.lt_succ_self _,_,h0,hd⟩
   ·rw[ae _ _ e] at hs
    obtain⟨k1,k2⟩:=F.ins i (by omega) t s hs hr
    exact⟨by omega,k2⟩
theorem cC.up1(F:cC Γ nt ops heads st0 S){i:Nat}(h:i<heads.length){t:Nat}{s:Slot}(hs:look (S i).sl t=some s)(hr:s.rg=st0.rg):look (S (i+1)).sl t=some s:=by
 obtain⟨-,o,h0,⟨-,h3⟩|⟨d,g,r,hd,hf,-,h3⟩⟩:=F.de h
 ·rw[h3];exact hs
 ·rw[h3,ae]
  ·exact hs
  ·rintro rfl
   exact ie hf hs (by rw[hr,F.rg i (by omega)])
theorem cC.up(F:cC Γ nt ops heads st0 S){i:Nat} : ∀{j:Nat},i≤j→j≤heads.length→∀{t:Nat}{s:Slot},look (S i).sl t=some s→s.rg=st0.rg→look (S j).sl t=some s
 | 0,h,_,t,s,hs,_=>by
  obtain rfl:i=0:=by omega
  exact hs
 | j+1,h,hj,t,s,hs,hr=>by
  rcases Nat.eq_or_lt_of_le h with rfl|h
  ·exact hs
  ·exact F.up1 (by omega) (F.up (by omega) (by omega) hs hr) hr
theorem cC.own(F:cC Γ nt ops heads st0 S){i:Nat}{o:Oper}(ho:heads[i]? = some o){d:Nat}(hd:o.dst=some d) :
  ∃g v,guardOf true ops st0.rg (S i).sl o=some g∧look (S heads.length).sl d=some ⟨st0.rg,i,g,v⟩∧(S (i+1)).sl=(d,⟨st0.rg,i,g,v⟩)::(S i).sl:=by
 have hi:i<heads.length:=(List.getElem?_eq_some_iff.1 ho).1
 obtain⟨-,o',h0,⟨h3,-⟩|⟨d',g,r,hd',hf,k1,h3⟩⟩:=F.de hi
 ·rw[ho] at h0
  obtain rfl:=Oi h0
  rw[hd] at h3;cases h3
 ·rw[ho] at h0
  obtain rfl:=Oi h0
  rw[hd] at hd'
  obtain rfl:=Oi hd'
  rw[F.rg i (by omega)] at k1 h3
  exact⟨g,r,k1,F.up (i:=i+1) (by omega) (Nat.le_refl _) (by rw[h3,af]) rfl,h3⟩
theorem cC.entry(F:cC Γ nt ops heads st0 S){t:Nat}{s:Slot}(hs:look (S heads.length).sl t=some s)(hr:s.rg=st0.rg) :
  ∃o g r,heads[s.k]? = some o∧o.dst=some t∧guardOf true ops st0.rg (S s.k).sl o=some g∧s=⟨st0.rg,s.k,g,r⟩∧(S (s.k+1)).sl=(t,s)::(S s.k).sl:=by
 obtain⟨h1,o,h2,h3⟩:=F.ins _ (Nat.le_refl _) t s hs hr
 obtain⟨g,r,h4,h5,h6⟩:=F.own h2 h3
 rw[hs] at h5
 have h7:=Oi h5
 rw[←h7] at h6
 exact⟨o,g,r,h2,h3,h4,h7,h6⟩
theorem cC.early(F:cC Γ nt ops heads st0 S){t i:Nat}{s:Slot}(hs:look (S heads.length).sl t=some s)(hr:s.rg=st0.rg)(hi:s.k<i)(hn:i≤heads.length):look (S i).sl t=some s:=by
 obtain⟨o,g,r,h1,h2,h3,h4,h5⟩:=F.entry hs hr
 exact F.up (i:=s.k+1) (by omega) hn (by rw[h5,af]) hr
theorem cC.atoms(F:cC Γ nt ops heads st0 S){md:Array Oper}(hmd:md.toList=ops){n:Nat} : ∀(k t:Nat)(s:Slot),s.k=k→look (S heads.length).sl t=some s→s.rg=st0.rg→
  ∀p∈s.g,∃s',look (S heads.length).sl p.1=some s'∧s'.rg=st0.rg∧s'.k<s.k∧∀listed:Array Bool,HeadInv .any md n listed→listed.getD s.k false=true→listed.getD s'.k false=true:=by
 intro k
 induction k using Nat.strongRecOn with
 | _ k ih=>
  intro t s hk hs hr p hp
  obtain⟨o,g,r,h1,h2,h3,h4,-⟩:=F.entry hs hr
  have hkl:s.k<heads.length:=(F.ins _ (Nat.le_refl _) t s hs hr).1
  have hg:s.g=g:=by rw[h4]
  rw[hg] at hp
  rcases fZ h3 with ⟨-,rfl⟩|⟨j,pol,oj,u,s',e1,e2,e3,e4,e5,e6,rfl,e7⟩
  ·cases hp
  ·have hs':look (S heads.length).sl u=some s':=F.up (by omega) (Nat.le_refl _) e4 e5
   have hj:s'.k<s.k:=(F.ins _ (by omega) u s' e4 e5).1
   have hcl:∀listed:Array Bool,HeadInv .any md n listed→listed.getD s.k false=true→listed.getD s'.k false=true:=by
    intro listed inv hl
    obtain⟨e,he,hb,hon⟩:=fS (e7 rfl)
    have ho:md[s.k]? = some o:=by
     have:=F.hd _ _ h1
     rw[←hmd] at this
     simpa using this
    have:=inv.closed s.k o ho hl e he hb
    rw[hon] at this
    rw[e6];exact this
   rcases List.mem_cons.1 hp with rfl|hp
   ·exact⟨s',hs',e5,hj,hcl⟩
   ·obtain⟨s2,q1,q2,q4,q3⟩:=ih s'.k (by omega) u s' rfl hs' e5 p hp
    exact⟨s2,q1,q2,by omega,fun listed inv hl=>q3 listed inv (hcl listed inv hl)⟩
def Wr(S:Nat→St)(i m:Nat)(sb:SB):Prop:=(S (i+1)).H=(m,sb)::(S i).H
theorem Wr.uniq{i m m':Nat}{sb sb':SB}(h:Wr S i m sb)(h':Wr S i m' sb'):m=m'∧sb=sb':=by
 have e:=h.symm.trans h'
 injection e with e
 injection e with e1 e2
 exact⟨e1,e2⟩
theorem no_wr{i:Nat}(h:(S (i+1)).H=(S i).H)(m:Nat)(sb:SB):¬Wr S i m sb:=fun hw=>by
 have:=congrArg List.length (h.symm.trans hw)
 simp at this
theorem One.wr{i:Nat}{o:Oper}{g:List (Nat×Bool)}{R:List Nat}{r:DR}(h:One Γ nt ops heads S i o g R r):(r.w=none∧r.fr=false∧∀m sb,¬Wr S i m sb) ∨
  ∃n sb,r.w=some (n,sb)∧Wr S i n sb∧g=[]∧n<jT r.fr (S i).nm∧oT ops i n (S i).ws=true∧oT ops i n (S i).rd=true:=by
 have hH:=h.H
 rcases wrB_ok h.w with ⟨h1,h2⟩|⟨n,sb,h1,h2,h3,h4⟩
 ·rw[h1] at hH
  exact .inl ⟨h1,h2,no_wr hH⟩
 ·rw[h1] at hH
  exact .inr ⟨n,sb,h1,hH,h2,h3,(h4 rfl).1,(h4 rfl).2⟩
theorem cC.nm(F:cC Γ nt ops heads st0 S){i:Nat} : ∀{j:Nat},i≤j→j≤heads.length→(S i).nm≤(S j).nm
 | 0,h,_=>by
  obtain rfl:i=0:=by omega
  exact Nat.le_refl _
 | j+1,h,hj=>by
  rcases Nat.eq_or_lt_of_le h with rfl|h
  ·exact Nat.le_refl _
  ·have:=F.nm (i:=i) (j:=j) (by omega) (by omega)
   obtain⟨o,g,R,r,h1⟩:=F.one (i:=j) (by omega)
   rw[h1.nm]
   cases r.fr<;>simp only[jT]<;>omega
theorem conR_mem{k n:Nat} : ∀{R:List Nat}{l:List (Nat×Nat)},n∈R→(n,k)∈conR k R l
 | m::r,l,h=>by
  rcases List.mem_cons.1 h with rfl|h
  ·exact List.mem_cons_self
  ·exact List.mem_cons_of_mem _ (conR_mem h)
theorem conR_old{k:Nat}{x:Nat×Nat} : ∀{R:List Nat}{l:List (Nat×Nat)},x∈l→x∈conR k R l
 | [],l,h=>h
 | m::r,l,h=>List.mem_cons_of_mem _ (conR_old h)
theorem cC.wrs(F:cC Γ nt ops heads st0 S){j:Nat} : ∀{i:Nat},j<i→i≤heads.length→∀{m:Nat}{sb:SB},Wr S j m sb→(m,j)∈(S i).ws
 | 0,h,_,m,sb,_=>by omega
 | i+1,h,hi,m,sb,hw=>by
  obtain⟨o,g,R,r,h1⟩:=F.one (i:=i) (by omega)
  have hws:=h1.ws
  rcases Nat.eq_or_lt_of_le (Nat.le_of_lt_succ h) with rfl|hlt
  ·rcases h1.wr with ⟨-,-,k⟩|⟨n,sb',k1,k2,-⟩
   ·exact absurd hw (k m sb)
   ·rw[hws,k1,(hw.uniq k2).1]
    exact List.mem_cons_self
  ·have ih:=F.wrs hlt (by omega) hw
   rw[hws]
   cases r.w with
   | none=>exact ih
   | some w=>exact List.mem_cons_of_mem _ ih
theorem cC.rds(F:cC Γ nt ops heads st0 S){x:Nat×Nat}{i:Nat} : ∀{j:Nat},i≤j→j≤heads.length→x∈(S i).rd→x∈(S j).rd
 | 0,h,_,hx=>by
  obtain rfl:i=0:=by omega
  exact hx
 | j+1,h,hj,hx=>by
  rcases Nat.eq_or_lt_of_le h with rfl|h
  ·exact hx
  ·have ih:=F.rds (i:=i) (j:=j) (by omega) (by omega) hx
   obtain⟨o,g,R,r,h1⟩:=F.one (i:=j) (by omega)
   rw[h1.rds]
   exact conR_old ih
theorem ancB_ok{md:Array Oper}{n:Nat}{listed:Array Bool}(inv:HeadInv .any md n listed):∀(k i j:Nat),ancB md.toList k i j=true→(∀o,md[i]? = some o→∀e∈o.after,Region.binds .any e=true→listed.getD e.on false=true)→listed.getD j false=true
 | 0,i,j,h,_=>by cases h
 | k+1,i,j,h,hw=>by
  simp only[ancB] at h
  split at h
  ·cases h
  ·rename_i o ho
   have ho':md[i]? = some o:=by simpa using ho
   split at h
   ·rename_i hwo
    obtain⟨e,he,hb,hon⟩:=fS hwo
    rw[←hon];exact hw o ho' e he hb
   ·obtain⟨e,he,hb⟩:=List.any_eq_true.1 h
    simp only[Bool.and_eq_true] at hb
    have hl:=hw o ho' e (by simpa using he) hb.1
    exact ancB_ok inv k e.on j hb.2 fun o' ho'' e' he' hb'=>inv.closed e.on o' ho'' hl e' he' hb'
theorem my{l:List Oper}{i n:Nat} : ∀{ws:List (Nat×Nat)},oT l i n ws=true→∀j,(n,j)∈ws→ancB l 5 i j=true
 | [],_,j,hj=>by cases hj
 | (m,k)::r,h,j,hj=>by
  simp only[oT] at h
  split at h
  ·split at h
   ·rename_i ha
    rcases List.mem_cons.1 hj with e|hj
    ·rw[(Prod.mk.inj e).2];exact ha
    ·exact my h j hj
   ·cases h
  ·rename_i hb
   rcases List.mem_cons.1 hj with e|hj
   ·rw[(Prod.mk.inj e).1,Nat.beq_refl] at hb;cases hb
   ·exact my h j hj
theorem wsAll_ok{l:List Oper}{i:Nat}{ws:List (Nat×Nat)} : ∀{R:List Nat},wsAll l i ws R=true→∀n∈R,oT l i n ws=true
 | [],_,n,hn=>by cases hn
 | m::r,h,n,hn=>by
  simp only[wsAll] at h
  split at h
  ·rename_i h1
   rcases List.mem_cons.1 hn with rfl|hn
   ·exact h1
   ·exact wsAll_ok h n hn
  ·cases h
theorem cC.order(F:cC Γ nt ops heads st0 S){md:Array Oper}(hmd:md.toList=ops){n:Nat}{listed:Array Bool}(inv:HeadInv .any md n listed){i j m:Nat}(hij:i<j)(hj:j<heads.length)
  (h:(∃sb,Wr S i m sb)∧((∃sb,Wr S j m sb)∨(m,j)∈(S (j+1)).rd∧∃o g R r,One Γ nt ops heads S j o g R r∧m∈R)∨(m,i)∈(S (i+1)).rd∧∃sb,Wr S j m sb)
  (hw:∀o,md[j]? = some o→∀e∈o.after,Region.binds .any e=true→listed.getD e.on false=true):listed.getD i false=true:=by
 subst hmd
 rcases h with ⟨⟨sb,h1⟩,⟨sb',h2⟩|⟨-,o,g,R,r,h2,h3⟩⟩|⟨h1,sb',h2⟩
 ·have hmem:=F.wrs (i:=j) hij (by omega) h1
  obtain⟨o,g,R,r,k1⟩:=F.one hj
  rcases k1.wr with ⟨-,-,k⟩|⟨n',sb2,-,k2,-,-,k5,-⟩
  ·exact absurd h2 (k m sb')
  ·rw[←(h2.uniq k2).1] at k5
   exact ancB_ok inv 5 j i (my k5 i hmem) hw
 ·have hmem:=F.wrs (i:=j) hij (by omega) h1
  exact ancB_ok inv 5 j i (my (wsAll_ok h2.rok m h3) i hmem) hw
 ·have hmem:=F.rds (i:=i+1) (j:=j) hij (by omega) h1
  obtain⟨o,g,R,r,k1⟩:=F.one hj
  rcases k1.wr with ⟨-,-,k⟩|⟨n',sb2,-,k2,-,-,-,k6⟩
  ·exact absurd h2 (k m sb')
  ·rw[←(h2.uniq k2).1] at k6
   exact ancB_ok inv 5 j i (my k6 i hmem) hw
theorem cC.heap(F:cC Γ nt ops heads st0 S):∀i,i≤heads.length→∀m sb,look (S i).H m=some sb→
  (look st0.H m=some sb∧∀j sb',j<i→¬Wr S j m sb')∨∃j,j<i∧Wr S j m sb∧∀j' sb',j<j'→j'<i→¬Wr S j' m sb'
 | 0,_,m,sb,h=>by rw[F.s0] at h;exact .inl ⟨h,fun j _ hj=>by omega⟩
 | i+1,hi,m,sb,h=>by
  have keep:(∀sb',¬Wr S i m sb')→look (S i).H m=some sb→(look st0.H m=some sb∧∀j sb',j<i+1→¬Wr S j m sb')∨∃j,j<i+1∧Wr S j m sb∧∀j' sb',j<j'→j'<i+1→¬Wr S j' m sb':=by
   intro hno hh
   rcases F.heap i (by omega) m sb hh with ⟨h1,h2⟩|⟨j,h1,h2,h3⟩
   ·refine .inl ⟨h1,fun j sb' hj=>?_⟩
    rcases Nat.eq_or_lt_of_le (Nat.le_of_lt_succ hj) with rfl|hj
    ·exact hno sb'
    ·exact h2 j sb' hj
   ·refine .inr ⟨j,by omega,h2,fun j' sb' hj hj'=>?_⟩
    rcases Nat.eq_or_lt_of_le (Nat.le_of_lt_succ hj') with rfl|hj'
    ·exact hno sb'
    ·exact h3 j' sb' hj hj'
  obtain⟨o,g,R,r,h1⟩:=F.one (i:=i) (by omega)
  rcases h1.wr with ⟨k1,-,k⟩|⟨n,sb2,-,hw,-⟩
  ·have hH:=h1.H
   rw[k1] at hH
   rw[hH] at h
   exact keep (fun sb'=>k m sb') h
  ·have h':=h
   rw[show (S (i+1)).H=(n,sb2)::(S i).H from hw] at h'
   by_cases e:n=m
   ·subst e
    rw[af] at h'
    rw[Oi h'] at hw
    exact .inr ⟨i,by omega,hw,fun j' _ h1 h2=>by omega⟩
   ·rw[ae _ _ e] at h'
    exact keep (fun sb' hw'=>e (hw.uniq hw').1) h'
end
end Go.Proofs.YtgigkennhdolpaaGreatDoor
