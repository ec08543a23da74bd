/- A symbolic executor with lists. -/
import Derived.Test.YtmdpdknpapjchaaGreatDoorM17
set_option linter.all false
namespace Go.Proofs.YtmdpdknpapjchaaGreatDoor
open Go.RowKit
variable {a0:Act}{listed:Array Bool}{heads:List Oper}{XN ρ:Names}{i m n nt t:Nat}{S:Nat->St}{s:Slot}{w0:World}
section
variable {PP:Program}{C:Cx PP}{Γ:List (XR C)}
structure cQ (Γ:List (XR C)) (nt:Nat) (ops heads:List Oper) (st0:St) (S:Nat->St):Prop where
 s0:S 0=st0
 run:∀(i:Nat) (o:Oper),heads[i]? = some o->∃ob,iF Γ nt true ops heads i o (S i)=some (S (i+1),ob)∧ox ob
 old:∀t s,look st0.sl t=some s->s.rg≠st0.rg
 hd:∀(i:Nat) (o:Oper),heads[i]? = some o->ops[i]? = some o
variable {ops:List Oper}{st0:St}
structure One (Γ:List (XR C)) (nt:Nat) (ops heads:List Oper) (S:Nat->St) (i:Nat) (o:Oper) (g:List (Nat×Bool)) (R:List Nat) (r:DR):Prop where
 at_:heads[i]? = some o
 gd:guardOf true ops (S i).rg (S i).sl o=some g
 rd:laid (Eu (nE true heads i (S i).rg (S i).sl o g) (S i).H o.op)=some R
 rok:y6 ops i (S i).ws R=true
 d:D Γ (fzB g) (nE true heads i (S i).rg (S i).sl o g) (restrict (S i).H R) (S i).nm o.op=some r
 w:wrB true ops i g r.w r.fr (S i).nm (S i).rd (S i).ws=true
 dst:Bf nt (S i).rg (S i).sl o=true
 sl:(S (i+1)).sl=GV (S i).rg i g r.v o.dst (S i).sl
 H:(S (i+1)).H=GX r.w (S i).H
 nm:(S (i+1)).nm=lY r.fr (S i).nm
 rg:(S (i+1)).rg=(S i).rg
 rds:(S (i+1)).rd=Mb i R (S i).rd
 ws:(S (i+1)).ws=Oh true r.w i (S i).ws
 ob:ox (K7 (S i).sl g r.ob)
theorem cQ.one(F:cQ Γ nt ops heads st0 S)(hi:i<heads.length):∃o g R r,One Γ nt ops heads S i o g R r:=by have h0:heads[i]? = some heads[i]:=Xt hi;obtain⟨ob,h1,h2⟩:=F.run i heads[i] h0;obtain⟨g,R,r,k1,k2,k3,k4,k5,k6,k7,k8⟩:=kX h1;exact⟨_,g,R,r,h0,k1,k2,k3,k4,k5,k6,by rw[k7],by rw[k7],by rw[k7],by rw[k7],by rw[k7];rfl,by rw[k7],by rw[<-k8];exact h2⟩
theorem cQ.cw(F:cQ Γ nt ops heads st0 S)(hi:i<heads.length):(S (i+1)).rg=(S i).rg∧∃o,heads[i]? = some o∧((o.dst=none∧(S (i+1)).sl=(S i).sl) ∨
  ∃d g v,o.dst=some d∧ni (S i).rg (S i).sl d=true∧guardOf true ops (S i).rg (S i).sl o=some g∧(S (i+1)).sl=(d,⟨(S i).rg,i,g,v⟩)::(S i).sl):=by
 obtain⟨o,g,R,r,h⟩:=F.one hi;refine⟨h.rg,o,h.at_,?_⟩;cases hd:o.dst with
 | none=>exact .inl ⟨rfl,by rw[h.sl,hd];rfl⟩
 | some d=>exact .inr ⟨d,g,r.v,rfl,((lP h.dst).2 d hd).2,h.gd,by rw[h.sl,hd];rfl⟩
theorem cQ.rg(F:cQ Γ nt ops heads st0 S):∀i,i<=heads.length->(S i).rg=st0.rg
 | 0,_=>by rw[F.s0]
 | i+1,h=>by rw[(F.cw (i:=i) (by omega)).1,F.rg i (by omega)]
theorem cQ.out(F:cQ Γ nt ops heads st0 S):∀i,i<=heads.length->∀t s,look (S i).sl t=some s->s.rg≠st0.rg->look st0.sl t=some s
 | 0,_,t,s,hs,_=>by rwa [F.s0] at hs
 | i+1,h,t,s,hs,hr=>by obtain⟨-,o,-,⟨-,h3⟩|⟨d,g,r,-,-,-,h3⟩⟩:=F.cw (i:=i) (by omega);rw[h3] at hs;exact F.out i (by omega) t s hs hr;rw[h3] at hs;by_cases e:d=t;subst e;rw[ai] at hs;obtain rfl:=Oi hs;exact P' (F.rg i (by omega)) hr;rw[ah _ _ e] at hs;exact F.out i (by omega) t s hs hr
theorem cQ.ins(F:cQ Γ nt ops heads st0 S):∀i,i<=heads.length->∀t s,look (S i).sl t=some s->s.rg=st0.rg->s.k<i∧∃o,heads[s.k]? = some o∧o.dst=some t
 | 0,_,t,s,hs,hr=>by rw[F.s0] at hs;exact P' hr (F.old t s hs)
 | i+1,h,t,s,hs,hr=>by obtain⟨-,o,h0,⟨-,h3⟩|⟨d,g,r,hd,-,-,h3⟩⟩:=F.cw (i:=i) (by omega);rw[h3] at hs;obtain⟨k1,k2⟩:=F.ins i (by omega) t s hs hr;exact⟨by omega,k2⟩;rw[h3] at hs;by_cases e:d=t;subst e;rw[ai] at hs;obtain rfl:=Oi hs;exact⟨Nat.lt_succ_self _,_,h0,hd⟩;rw[ah _ _ e] at hs;obtain⟨k1,k2⟩:=F.ins i (by omega) t s hs hr;exact⟨by omega,k2⟩
theorem cQ.up1(F:cQ Γ nt ops heads st0 S)(h:i<heads.length)(hs:look (S i).sl t=some s)(hr:s.rg=st0.rg):look (S (i+1)).sl t=some s:=by obtain⟨-,o,h0,⟨-,h3⟩|⟨d,g,r,hd,hf,-,h3⟩⟩:=F.cw h;rw[h3];exact hs;rw[h3,ah];exact hs;rintro rfl;exact jD hf hs (by rw[hr,F.rg i (by omega)])
theorem cQ.up(F:cQ Γ nt ops heads st0 S){i:Nat} : ∀{j:Nat},i<=j->j<=heads.length->∀{t:Nat} {s:Slot},look (S i).sl t=some s->s.rg=st0.rg->look (S j).sl t=some s
 | 0,h,_,t,s,hs,_=>by obtain rfl:i=0:=(by omega);exact hs
 | j+1,h,hj,t,s,hs,hr=>by rcases Xs h with rfl|h;exact hs;exact F.up1 (by omega) (F.up (by omega) (by omega) hs hr) hr
theorem cQ.own(F:cQ Γ nt ops heads st0 S){o:Oper}(ho:heads[i]? = some o){d:Nat}(hd:o.dst=some d) :
  ∃g v,guardOf true ops st0.rg (S i).sl o=some g∧look (S heads.length).sl d=some ⟨st0.rg,i,g,v⟩∧(S (i+1)).sl=(d,⟨st0.rg,i,g,v⟩)::(S i).sl:=by
 have hi:i<heads.length:=(F3.1 ho).1;obtain⟨-,o',h0,⟨h3,-⟩|⟨d',g,r,hd',hf,k1,h3⟩⟩:=F.cw hi;rw[ho] at h0;obtain rfl:=Oi h0;rw[hd] at h3;cases h3;rw[ho] at h0;obtain rfl:=Oi h0;rw[hd] at hd';obtain rfl:=Oi hd';rw[F.rg i (by omega)] at k1 h3;exact⟨g,r,k1,F.up (i:=i+1) (by omega) (F2 _) (by rw[h3,ai]) rfl,h3⟩
theorem cQ.entry(F:cQ Γ nt ops heads st0 S)(hs:look (S heads.length).sl t=some s)(hr:s.rg=st0.rg) :
  ∃o g r,heads[s.k]? = some o∧o.dst=some t∧guardOf true ops st0.rg (S s.k).sl o=some g∧s=⟨st0.rg,s.k,g,r⟩∧(S (s.k+1)).sl=(t,s)::(S s.k).sl:=by
 obtain⟨h1,o,h2,h3⟩:=F.ins _ (F2 _) t s hs hr;obtain⟨g,r,h4,h5,h6⟩:=F.own h2 h3;rw[hs] at h5;have h7:=Oi h5;rw[<-h7] at h6;exact⟨o,g,r,h2,h3,h4,h7,h6⟩
theorem cQ.early(F:cQ Γ nt ops heads st0 S)(hs:look (S heads.length).sl t=some s)(hr:s.rg=st0.rg)(hi:s.k<i)(hn:i<=heads.length):look (S i).sl t=some s:=by obtain⟨o,g,r,h1,h2,h3,h4,h5⟩:=F.entry hs hr;exact F.up (i:=s.k+1) (by omega) hn (by rw[h5,ai]) hr
theorem cQ.atoms(F:cQ Γ nt ops heads st0 S){md:Array Oper}(hmd:md.toList=ops) : ∀(k t:Nat) (s:Slot),s.k=k->look (S heads.length).sl t=some s->s.rg=st0.rg->
  ∀p∈s.g,∃s',look (S heads.length).sl p.1=some s'∧s'.rg=st0.rg∧s'.k<s.k∧∀listed:Array Bool,HeadInv .any md n listed->listed.getD s.k false=true->listed.getD s'.k false=true:=by
 intro k
 induction k using Nat.strongRecOn with
 | _ k ih=>
  intro t s hk hs hr p hp;obtain⟨o,g,r,h1,h2,h3,h4,-⟩:=F.entry hs hr;have hkl:s.k<heads.length:=(F.ins _ (F2 _) t s hs hr).1;have hg:s.g=g:=(by rw[h4]);rw[hg] at hp;rcases hU h3 with ⟨-,rfl⟩|⟨j,Ye,oj,u,s',e1,e2,e3,e4,e5,e6,rfl,e7⟩
  cases hp;have Zs:look (S heads.length).sl u=some s':=F.up (by omega) (F2 _) e4 e5;have hj:s'.k<s.k:=(F.ins _ (by omega) u s' e4 e5).1;have hcl:∀listed:Array Bool,HeadInv .any md n listed->listed.getD s.k false=true->listed.getD s'.k false=true:=(by intro listed inv hl;obtain⟨e,he,hb,hon⟩:=gZ (e7 rfl);have ho:md[s.k]? = some o:=(by have:=F.hd _ _ h1;rw[<-hmd] at this;simpa using this);have:=inv.closed s.k o ho hl e he hb;rw[hon] at this;rw[e6];exact this);rcases Xq.1 hp with rfl|hp;exact⟨s',Zs,e5,hj,hcl⟩;obtain⟨s2,q1,q2,q4,q3⟩:=ih s'.k (by omega) u s' rfl Zs e5 p hp;exact⟨s2,q1,q2,by omega,λlisted inv hl=>q3 listed inv (hcl listed inv hl)⟩
def Wr(S:Nat->St)(i m:Nat)(sb:SB):Prop:=(S (i+1)).H=(m,sb)::(S i).H
theorem Wr.uniq{m':Nat}{sb Yu:SB}(h:Wr S i m sb)(h':Wr S i m' Yu):m=m'∧sb=Yu:=by have e:=h.symm.trans h';injection e with e;injection e with e1 e2;exact⟨e1,e2⟩
theorem U9(h:(S (i+1)).H=(S i).H)(m:Nat)(sb:SB):¬Wr S i m sb:=λhw=>by have:=O' List.length (h.symm.trans hw);simp at this
theorem One.wr{o:Oper}{g:List (Nat×Bool)}{R:List Nat}{r:DR}(h:One Γ nt ops heads S i o g R r):(r.w=none∧r.fr=false∧∀m sb,¬Wr S i m sb) ∨
  ∃n sb,r.w=some (n,sb)∧Wr S i n sb∧g=[]∧n<lY r.fr (S i).nm∧rK ops i n (S i).ws=true∧rK ops i n (S i).rd=true:=by
 have hH:=h.H;rcases xp h.w with ⟨h1,h2⟩|⟨n,sb,h1,h2,h3,h4⟩
 rw[h1] at hH;exact .inl ⟨h1,h2,U9 hH⟩;rw[h1] at hH;exact .inr ⟨n,sb,h1,hH,h2,h3,(h4 rfl).1,(h4 rfl).2⟩
theorem cQ.nm(F:cQ Γ nt ops heads st0 S){i:Nat} : ∀{j:Nat},i<=j->j<=heads.length->(S i).nm<=(S j).nm
 | 0,h,_=>by obtain rfl:i=0:=(by omega);exact F2 _
 | j+1,h,hj=>by rcases Xs h with rfl|h;exact F2 _;have:=F.nm (i:=i) (j:=j) (by omega) (by omega);obtain⟨o,g,R,r,h1⟩:=F.one (i:=j) (by omega);rw[h1.nm];cases r.fr<;>simp only[lY]<;>omega
theorem vc{k n:Nat} : ∀{R:List Nat} {l:List (Nat×Nat)},n∈R->(n,k)∈Mb k R l
 | m::r,l,h=>by rcases Xq.1 h with rfl|h;exact J';exact Xm _ (vc h)
theorem Bp{k:Nat}{x:Nat×Nat} : ∀{R:List Nat} {l:List (Nat×Nat)},x∈l->x∈Mb k R l
 | [],l,h=>h
 | m::r,l,h=>Xm _ (Bp h)
theorem cQ.wrs(F:cQ Γ nt ops heads st0 S){j:Nat} : ∀{i:Nat},j<i->i<=heads.length->∀{m:Nat} {sb:SB},Wr S j m sb->(m,j)∈(S i).ws
 | 0,h,_,m,sb,_=>by omega
 | i+1,h,hi,m,sb,hw=>by
  obtain⟨o,g,R,r,h1⟩:=F.one (i:=i) (by omega);have hws:=h1.ws;rcases Xs (Nat.le_of_lt_succ h) with rfl|X0
  ·rcases h1.wr with ⟨-,-,k⟩|⟨n,Yu,k1,k2,-⟩
   exact P' hw (k m sb);rw[hws,k1,(hw.uniq k2).1];exact J'
  have ih:=F.wrs X0 (by omega) hw;rw[hws];cases r.w with
  | none=>exact ih
  | some w=>exact Xm _ ih
theorem cQ.rds(F:cQ Γ nt ops heads st0 S){x:Nat×Nat}{i:Nat} : ∀{j:Nat},i<=j->j<=heads.length->x∈(S i).rd->x∈(S j).rd
 | 0,h,_,hx=>by obtain rfl:i=0:=(by omega);exact hx
 | j+1,h,hj,hx=>by rcases Xs h with rfl|h;exact hx;have ih:=F.rds (i:=i) (j:=j) (by omega) (by omega) hx;obtain⟨o,g,R,r,h1⟩:=F.one (i:=j) (by omega);rw[h1.rds];exact Bp ih
theorem sQ{md:Array Oper}{n:Nat}{listed:Array Bool}(inv:HeadInv .any md n listed):∀(k i j:Nat),MG md.toList k i j=true->(∀o,md[i]? = some o->∀e∈o.after,Region.binds .any e=true->listed.getD e.on false=true)->listed.getD j false=true
 | 0,i,j,h,_=>by cases h
 | k+1,i,j,h,hw=>by simp only[MG] at h;split at h;cases h;rename_i o ho;have Zt:md[i]? = some o:=(by simpa using ho);split at h;rename_i hwo;obtain⟨e,he,hb,hon⟩:=gZ hwo;rw[<-hon];exact hw o Zt e he hb;obtain⟨e,he,hb⟩:=List.any_eq_true.1 h;simp only[I'] at hb;have hl:=hw o Zt e (by simpa using he) hb.1;exact sQ inv k e.on j hb.2 λo' ho'' e' he' Zh=>inv.closed e.on o' ho'' hl e' he' Zh
theorem oO{l:List Oper}{i n:Nat} : ∀{ws:List (Nat×Nat)},rK l i n ws=true->∀j,(n,j)∈ws->MG l 5 i j=true
 | [],_,j,hj=>by cases hj
 | (m,k)::r,h,j,hj=>by simp only[rK] at h;split at h;split at h;rename_i ha;rcases Xq.1 hj with e|hj;rw[(F7 e).2];exact ha;exact oO h j hj;cases h;rename_i hb;rcases Xq.1 hj with e|hj;rw[(F7 e).1,Xv] at hb;cases hb;exact oO h j hj
theorem y5{l:List Oper}{i:Nat}{ws:List (Nat×Nat)} : ∀{R:List Nat},y6 l i ws R=true->∀n∈R,rK l i n ws=true
 | [],_,n,hn=>by cases hn
 | m::r,h,n,hn=>by simp only[y6] at h;split at h;rename_i h1;rcases Xq.1 hn with rfl|hn;exact h1;exact y5 h n hn;cases h
theorem cQ.order(F:cQ Γ nt ops heads st0 S){md:Array Oper}(hmd:md.toList=ops)(inv:HeadInv .any md n listed){j:Nat}(hij:i<j)(hj:j<heads.length)(h:(∃sb,Wr S i m sb)∧((∃sb,Wr S j m sb)∨(m,j)∈(S (j+1)).rd∧∃o g R r,One Γ nt ops heads S j o g R r∧m∈R)∨(m,i)∈(S (i+1)).rd∧∃sb,Wr S j m sb)(hw:∀o,md[j]? = some o->∀e∈o.after,Region.binds .any e=true->listed.getD e.on false=true):listed.getD i false=true:=by
 subst hmd;rcases h with ⟨⟨sb,h1⟩,⟨Yu,h2⟩|⟨-,o,g,R,r,h2,h3⟩⟩|⟨h1,Yu,h2⟩
 ·have Yq:=F.wrs (i:=j) hij (by omega) h1;obtain⟨o,g,R,r,k1⟩:=F.one hj;rcases k1.wr with ⟨-,-,k⟩|⟨n',sb2,-,k2,-,-,k5,-⟩
  exact P' h2 (k m Yu);rw[<-(h2.uniq k2).1] at k5;exact sQ inv 5 j i (oO k5 i Yq) hw
 have Yq:=F.wrs (i:=j) hij (by omega) h1;exact sQ inv 5 j i (oO (y5 h2.rok m h3) i Yq) hw;have Yq:=F.rds (i:=i+1) (j:=j) hij (by omega) h1;obtain⟨o,g,R,r,k1⟩:=F.one hj;rcases k1.wr with ⟨-,-,k⟩|⟨n',sb2,-,k2,-,-,-,k6⟩
 exact P' h2 (k m Yu);rw[<-(h2.uniq k2).1] at k6;exact sQ inv 5 j i (oO k6 i Yq) hw
theorem cQ.heap(F:cQ Γ nt ops heads st0 S):∀i,i<=heads.length->∀m sb,look (S i).H m=some sb->
  (look st0.H m=some sb∧∀j Yu,j<i->¬Wr S j m Yu)∨∃j,j<i∧Wr S j m sb∧∀j' Yu,j<j'->j'<i->¬Wr S j' m Yu
 | 0,_,m,sb,h=>by rw[F.s0] at h;exact .inl ⟨h,λj _ hj=>by omega⟩
 | i+1,hi,m,sb,h=>by
  have keep:(∀Yu,¬Wr S i m Yu)->look (S i).H m=some sb->(look st0.H m=some sb∧∀j Yu,j<i+1->¬Wr S j m Yu)∨∃j,j<i+1∧Wr S j m sb∧∀j' Yu,j<j'->j'<i+1->¬Wr S j' m Yu:=by
   intro YY hh;rcases F.heap i (by omega) m sb hh with ⟨h1,h2⟩|⟨j,h1,h2,h3⟩
   refine .inl ⟨h1,λj Yu hj=>?_⟩;rcases Xs (Nat.le_of_lt_succ hj) with rfl|hj;exact YY Yu;exact h2 j Yu hj;refine .inr ⟨j,by omega,h2,λj' Yu hj hj'=>?_⟩;rcases Xs (Nat.le_of_lt_succ hj') with rfl|hj';exact YY Yu;exact h3 j' Yu hj hj'
  obtain⟨o,g,R,r,h1⟩:=F.one (i:=i) (by omega);rcases h1.wr with ⟨k1,-,k⟩|⟨n,sb2,-,hw,-⟩
  have hH:=h1.H;rw[k1] at hH;rw[hH] at h;exact keep (λYu=>k m Yu) h;have h':=h;rw[show (S (i+1)).H=(n,sb2)::(S i).H from hw] at h';by_cases e:n=m;subst e;rw[ai] at h';rw[Oi h'] at hw;exact .inr ⟨i,by omega,hw,λj' _ h1 h2=>by omega⟩;rw[ah _ _ e] at h';exact keep (λYu hw'=>e (hw.uniq hw').1) h'
end
section
variable {PP:Program}{C:Cx PP}{Γ:List (XR C)}{ops:Array Oper}{st0:St}
theorem uw(h:i<listed.size):(listed.setIfInBounds i true).getD i false=true:=by simp[h]
theorem Mem.WS{W W':World}{XM:Names}{nm nT:Nat}{wn:Option Nat}{fr:Bool}(h:Mem C w0 XN nT ρ W)(e:ZB C ρ W nm wn fr XM W')(hf:fr=true->nm<nT)(hw:∀n,wn=some n->n<nT):Mem C w0 XN nT XM W':=by
 have e':ZB C ρ W nT wn fr XM W'->Mem C w0 XN (lY fr nT) XM W':=λe'=>h.eff e' λn hn=>by have:=hw n hn;cases fr<;>simp only[lY]<;>omega
 have hs:=h.keep.size;have YZ:∀n b,bM XM n b->bM ρ n b∨W.heap.size<=b:=λn b ho=>by
  rcases ho with ho|⟨ep,l,o,h1,h2,h3,h4⟩|⟨i,l,o,h1,h3,h4⟩
  ·rcases e.nn n b ho with h1|⟨-,-,-,h1⟩
   exact .inl (.inl h1);exact .inr h1
  ·rcases e.nv ep l h1 with k1|⟨-,-,k2,k3⟩
   exact .inl (.inr (.inl ⟨ep,l,o,k1,h2,h3,h4⟩));rw[<-h2];exact k3 b o h4 h3
  exact .inl (.inr (.inr ⟨i,l,o,(e.nk n i).symm.trans h1,h3,h4⟩))
 refine⟨e.hb,λn b hn=>?_,λep l hl=>?_,λm i l hl=>h.domk m i l ((e.nk m i).symm.trans hl),h.le.trans e.le,λn b hn=>?_,λb i c hz=>?_,⟨e.os.trans h.keep.os,e.tape.trans h.keep.tape,e.output.trans h.keep.output,Nat.le_trans hs e.size,λb hb hn=>?_⟩⟩
 ·rcases e.nn n b hn with h1|⟨rfl,h2,-,-⟩
  exact h.dom n b h1;exact hf h2
 ·rcases e.nv ep l hl with h1|⟨rfl,h2,h3,-⟩
  exact h.domv ep l h1;exact⟨hf h2,hw _ h3⟩
 rcases YZ n b hn with h1|h1;exact h.old n b h1;exact .inr (by omega);rcases e.nz b i c hz with h1|h1;exact h.zold b i c h1;exact .inr (.inl (by omega));refine(e.block b (by omega) λn _ ho=>?_).trans (h.keep.block b hb hn);rcases h.old n b ho with h1|h1;exact hn h1;omega
theorem Mem.up{W:World}(h:Mem C w0 XN n ρ W)(hn:n<=m):Mem C w0 XN m ρ W:=
 ⟨h.hb,λk b hk=>Nat.lt_of_lt_of_le (h.dom k b hk) hn,λe l hl=>⟨Nat.lt_of_lt_of_le (h.domv e l hl).1 hn,Nat.lt_of_lt_of_le (h.domv e l hl).2 hn⟩,λm i l hl=>Nat.lt_of_lt_of_le (h.domk m i l hl) hn,h.le,h.old,h.zold,h.keep⟩
def Given(heads:List Oper)(st0:St)(S:Nat->St)(listed:Array Bool)(m:Nat):Prop:=m<st0.nm∨∃i,i<heads.length∧listed.getD i false=true∧(S (i+1)).nm=(S i).nm+1∧(S i).nm=m
structure HI (C:Cx PP) (nt:Nat) (w0:World) (XN:Names) (heads:List Oper) (st0:St) (S:Nat->St) (YA:Names) (a0:Act) (listed:Array Bool) (ρ:Names) (a:Act) (W:World):Prop where
 mem:Mem C w0 XN (S heads.length).nm ρ W
 le:YA.le ρ
 domn:∀m b,ρ.n m=some b->Given heads st0 S listed m
 domv:∀m b,ρ.v m=some b->Given heads st0 S listed m
 con:∀m sb,look st0.H m=some sb->(∀i Yu,i<heads.length->Wr S i m Yu->listed.getD i false=false)->cS ρ W m sb
 wr:∀i m sb,i<heads.length->listed.getD i false=true->Wr S i m sb->(∀j Yu,i<j->j<heads.length->Wr S j m Yu->listed.getD j false=false)->cS ρ W m sb
 ins:∀t s,look (S heads.length).sl t=some s->s.rg=st0.rg->listed.getD s.k false=true->nC ρ a s.g s.v t
 out:∀t,(∀j oj,heads[j]? = some oj->oj.dst=some t->listed.getD j false=false)->a.tmps[t]? = a0.tmps[t]?
 sz:a.tmps.size=nt
 df:a.defers=XN.d
variable {YA:Names}{W1:World}
theorem Pm(F:cQ Γ nt ops.toList heads st0 S)(hn:heads.length=n)(h0:RI C nt w0 XN st0 YA a0 W1)(listed:Array Bool)(a:Act)(W:World)(i:Nat)(o:Oper)(inv:HeadInv .any ops n listed)(hI:∃ρ,HI C nt w0 XN heads st0 S YA a0 listed ρ a W)(hi:i<n)(ho:ops[i]? = some o)(hho:heads[i]? = some o)(hu':listed.getD i false=false)(X7:∀e∈o.after,Region.binds .any e=true->listed.getD e.on false=true) :
  Region.wanted o (yielded ops a.tmps)=true->NS C.P (execOp a.eval o):=by
 obtain⟨ρ,h⟩:=hI;subst hn;have hil:i<listed.size:=by rw[inv.size];exact(E'.1 ho).1
 obtain⟨o',g,R,r,Yw⟩:=F.one hi;obtain rfl:o'=o:=by have:=Yw.at_;rw[hho] at this;exact(Oi this).symm
 have hg:=Yw.gd;have hD:=Yw.d;have hrdl:=Yw.rd;rw[F.rg i (by omega)] at hg hD hrdl;obtain⟨d1,d2⟩:=lP Yw.dst;have hwait:∀oo,ops[i]? = some oo->∀e∈oo.after,Region.binds .any e=true->listed.getD e.on false=true:=λoo hoo=>by rw[ho] at hoo;obtain rfl:=Oi hoo;exact X7
 have wait:∀j,ic o' j=true->listed.getD j false=true:=λj hj=>by obtain⟨e,he,hb,hon⟩:=gZ hj;rw[<-hon];exact X7 e he hb
 -- the guards' cw
 have hatoms:∀p∈g,∃s',look (S heads.length).sl p.1=some s'∧s'.rg=st0.rg∧s'.k<i∧listed.getD s'.k false=true:=by
  rcases hU hg with ⟨-,rfl⟩|⟨j,Ye,oj,u,s',e1,e2,e3,e4,e5,e6,rfl,e7⟩
  intro p hp;cases hp;have Zs:=F.up (i:=i) (by omega) (F2 _) e4 e5;have hl:listed.getD s'.k false=true:=(by rw[e6];exact wait j (e7 rfl));intro p hp;rcases Xq.1 hp with rfl|hp;exact⟨s',Zs,e5,(F.ins _ (by omega) u s' e4 e5).1,hl⟩;obtain⟨s2,q1,q2,q4,q3⟩:=F.atoms rfl s'.k u s' rfl Zs e5 p hp;exact⟨s2,q1,q2,by have:=(F.ins _ (by omega) u s' e4 e5).1;omega,q3 listed inv hl⟩
 have hw:Region.wanted o' (yielded ops a.tmps)=true↔holds a g:=by
  rcases hU hg with ⟨h1,rfl⟩|⟨j,Ye,oj,u,s',e1,e2,e3,e4,e5,e6,rfl,e7⟩
  exact⟨λ_=>holds_nil a,λ_=>eD h1⟩;refine⟨λhw=>?_,λhh=>(fh e1 e2 e3).2 (hh _ J')⟩;have hb:=(fh e1 e2 e3).1 hw;have Zs:=F.up (i:=i) (by omega) (F2 _) e4 e5;have hl:listed.getD s'.k false=true:=(by rw[e6];exact wait j (e7 rfl));have:=((h.ins u s' Zs e5 hl).of_bool hb).1;intro p hp;rcases Xq.1 hp with rfl|hp;exact hb;exact this p hp
 have XZ:holds a g->lS (nE true heads i st0.rg (S i).sl o' g) a ρ:=by
  intro hh ex x v e hex;rw[tI] at e;split at e;obtain rfl:=Oi e;exact jT;obtain rfl:=Oi e;rfl;obtain rfl:=Oi e;rfl;rename_i t;split at e;cases e;rename_i s hl;split at e
  ·rename_i hr;have hr:=Nb hr;split at e
   ·rename_i hsub;simp only at e;split at e
    ·rename_i hwt;obtain rfl:=Oi e;obtain⟨y,h1,h2⟩:=(h.ins t s (F.up (i:=i) (by omega) (F2 _) hl hr) hr (wait _ hwt)).1 (λp hp=>by
      rcases Xr.1 (oX hsub p hp) with hp|hp;exact qu (hex p hp)
      ·exact hh p hp)
     rw[aY h2];exact h1
    cases e
   cases e
  rename_i hr;have hr:s.rg≠st0.rg:=λe=>(by rw[e,Xv] at hr;cases hr);split at e
  ·rename_i hgn;simp only at e;split at e
   ·rename_i Zz;obtain rfl:=Oi e;obtain⟨y,h1,h2⟩:=h0.out t s (F.out i (by omega) t s hl hr) hr hgn;have YY:∀j oj,heads[j]? = some oj->oj.dst=some t->listed.getD j false=false:=λj oj hj hdj=>by
     obtain⟨e,he,hb,hon⟩:=gZ (qx Zz j oj hj hdj);cases hlj:listed.getD j false with
     | false=>rfl
     | true=>
      have hjo:ops[j]? = some oj:=(by simpa using F.hd j oj hj);have:=inv.closed j oj hjo hlj e he hb;rw[hon,hu'] at this;cases this
    rw[aY ((h.out t YY).trans h2)];exact bE h.le _ _ h1
   cases e
  cases e
 exact λhwt=>VT (XZ (hw.1 hwt)) hD
theorem wP(F:cQ Γ nt ops.toList heads st0 S)(hn:heads.length=n)(h0:RI C nt w0 XN st0 YA a0 W1)(listed:Array Bool)(a:Act)(W:World)(i:Nat)(o:Oper)(inv:HeadInv .any ops n listed)(hI:∃ρ,HI C nt w0 XN heads st0 S YA a0 listed ρ a W)(hi:i<n)(ho:ops[i]? = some o)(hho:heads[i]? = some o)(hu':listed.getD i false=false)(X7:∀e∈o.after,Region.binds .any e=true->listed.getD e.on false=true)(K:Act->World->Prop)(hK:∀a' W',(∃ρ,HI C nt w0 XN heads st0 S YA a0 (listed.setIfInBounds i true) ρ a' W')->K a' W') :
  if Region.wanted o (yielded ops a.tmps)=true then c8 C.P C.co o a W K else K (a.put o.dst undef) W:=by
 obtain⟨ρ,h⟩:=hI;subst hn;have hil:i<listed.size:=by rw[inv.size];exact(E'.1 ho).1
 obtain⟨o',g,R,r,Yw⟩:=F.one hi;obtain rfl:o'=o:=by have:=Yw.at_;rw[hho] at this;exact(Oi this).symm
 have hg:=Yw.gd;have hD:=Yw.d;have hrdl:=Yw.rd;rw[F.rg i (by omega)] at hg hD hrdl;obtain⟨d1,d2⟩:=lP Yw.dst;have hwait:∀oo,ops[i]? = some oo->∀e∈oo.after,Region.binds .any e=true->listed.getD e.on false=true:=λoo hoo=>by rw[ho] at hoo;obtain rfl:=Oi hoo;exact X7
 have wait:∀j,ic o' j=true->listed.getD j false=true:=λj hj=>by obtain⟨e,he,hb,hon⟩:=gZ hj;rw[<-hon];exact X7 e he hb
 -- the guards' cw
 have hatoms:∀p∈g,∃s',look (S heads.length).sl p.1=some s'∧s'.rg=st0.rg∧s'.k<i∧listed.getD s'.k false=true:=by
  rcases hU hg with ⟨-,rfl⟩|⟨j,Ye,oj,u,s',e1,e2,e3,e4,e5,e6,rfl,e7⟩
  intro p hp;cases hp;have Zs:=F.up (i:=i) (by omega) (F2 _) e4 e5;have hl:listed.getD s'.k false=true:=(by rw[e6];exact wait j (e7 rfl));intro p hp;rcases Xq.1 hp with rfl|hp;exact⟨s',Zs,e5,(F.ins _ (by omega) u s' e4 e5).1,hl⟩;obtain⟨s2,q1,q2,q4,q3⟩:=F.atoms rfl s'.k u s' rfl Zs e5 p hp;exact⟨s2,q1,q2,by have:=(F.ins _ (by omega) u s' e4 e5).1;omega,q3 listed inv hl⟩
 have hw:Region.wanted o' (yielded ops a.tmps)=true↔holds a g:=by
  rcases hU hg with ⟨h1,rfl⟩|⟨j,Ye,oj,u,s',e1,e2,e3,e4,e5,e6,rfl,e7⟩
  exact⟨λ_=>holds_nil a,λ_=>eD h1⟩;refine⟨λhw=>?_,λhh=>(fh e1 e2 e3).2 (hh _ J')⟩;have hb:=(fh e1 e2 e3).1 hw;have Zs:=F.up (i:=i) (by omega) (F2 _) e4 e5;have hl:listed.getD s'.k false=true:=(by rw[e6];exact wait j (e7 rfl));have:=((h.ins u s' Zs e5 hl).of_bool hb).1;intro p hp;rcases Xq.1 hp with rfl|hp;exact hb;exact this p hp
 have XZ:holds a g->lS (nE true heads i st0.rg (S i).sl o' g) a ρ:=by
  intro hh ex x v e hex;rw[tI] at e;split at e;obtain rfl:=Oi e;exact jT;obtain rfl:=Oi e;rfl;obtain rfl:=Oi e;rfl;rename_i t;split at e;cases e;rename_i s hl;split at e
  ·rename_i hr;have hr:=Nb hr;split at e
   ·rename_i hsub;simp only at e;split at e
    ·rename_i hwt;obtain rfl:=Oi e;obtain⟨y,h1,h2⟩:=(h.ins t s (F.up (i:=i) (by omega) (F2 _) hl hr) hr (wait _ hwt)).1 (λp hp=>by
      rcases Xr.1 (oX hsub p hp) with hp|hp;exact qu (hex p hp)
      ·exact hh p hp)
     rw[aY h2];exact h1
    cases e
   cases e
  rename_i hr;have hr:s.rg≠st0.rg:=λe=>(by rw[e,Xv] at hr;cases hr);split at e
  ·rename_i hgn;simp only at e;split at e
   ·rename_i Zz;obtain rfl:=Oi e;obtain⟨y,h1,h2⟩:=h0.out t s (F.out i (by omega) t s hl hr) hr hgn;have YY:∀j oj,heads[j]? = some oj->oj.dst=some t->listed.getD j false=false:=λj oj hj hdj=>by
     obtain⟨e,he,hb,hon⟩:=gZ (qx Zz j oj hj hdj);cases hlj:listed.getD j false with
     | false=>rfl
     | true=>
      have hjo:ops[j]? = some oj:=(by simpa using F.hd j oj hj);have:=inv.closed j oj hjo hlj e he hb;rw[hon,hu'] at this;cases this
    rw[aY ((h.out t YY).trans h2)];exact bE h.le _ _ h1
   cases e
  cases e
 have hgi:holds a g->ox r.ob:=λhh=>Fc (ρ:=ρ) (λq hq s hs=>by obtain⟨s',q1,q2,q4,q3⟩:=hatoms q hq;have YP:s=s':=(by have:=F.early q1 q2 q4 (by omega);rw[hs] at this;exact Oi this);subst YP;exact((h.ins q.1 s q1 q2 q3).of_bool (hh q hq)).2) hh Yw.ob
 -- what is done stays done
 have hstay:∀(XM:Names) (d:Nat) (x:Value),o'.dst=some d->ρ.le XM->∀t s,look (S heads.length).sl t=some s->s.rg=st0.rg->listed.getD s.k false=true->nC XM (a.put (some d) x) s.g s.v t:=by intro XM d x hd hl t s hs hr ZS;obtain⟨g',r',-,e,-⟩:=F.own hho hd;have XW:∀u s',look (S heads.length).sl u=some s'->listed.getD s'.k false=true->d≠u:=(by intro u s' hu hls' e2;subst e2;rw[e] at hu;obtain rfl:=Oi hu;have:listed.getD i false=true:=hls';rw[hu'] at this;cases this);have hat:holds (a.put (some d) x) s.g↔holds a s.g:=(by have hq:∀p∈s.g,d≠p.1:=λp hp=>(by obtain⟨s',q1,q2,q4,q3⟩:=F.atoms (md:=ops) (n:=heads.length) rfl s.k t s rfl hs hr p hp;exact XW p.1 s' q1 (q3 listed inv ZS));exact⟨λhh p hp=>by rw[<-cB (hq p hp) (x:=x)];exact hh p hp,λhh p hp=>by rw[cB (hq p hp)];exact hh p hp⟩);obtain⟨h1,h2⟩:=h.ins t s hs hr ZS;have hdt:=XW t s hs ZS;refine⟨λhh=>?_,λhh=>?_⟩;obtain⟨y,h3,h4⟩:=h1 (hat.1 hh);exact⟨y,bE hl _ _ h3,by rw[cB hdt];exact h4⟩;rw[cB hdt];exact h2 λh'=>hh (hat.2 h')
 have ZD:∀j,(listed.setIfInBounds i true).getD j false=true->j=i∨listed.getD j false=true:=λj hj=>by by_cases hji:j=i;exact .inl hji;rw[getD_set_ne false (Ne.symm hji)] at hj;exact .inr hj
 have hkeep:∀j,listed.getD j false=true->(listed.setIfInBounds i true).getD j false=true:=λj hj=>getD_set_true hj;have hmono:∀j,(listed.setIfInBounds i true).getD j false=false->listed.getD j false=false:=λj hj=>by
  cases hl:listed.getD j false with
  | false=>rfl
  | true=>rw[hkeep j hl] at hj;cases hj
 have hisz:(listed.setIfInBounds i true).getD i false=true:=uw hil;have hatd:∀(d:Nat) (x:Value),o'.dst=some d->(holds (a.put (some d) x) g↔holds a g):=by intro d x hd;obtain⟨g',r',-,e,-⟩:=F.own hho hd;have hq:∀p∈g,d≠p.1:=λp hp e2=>(by obtain⟨s',q1,q2,q4,q3⟩:=hatoms p hp;rw[<-e2,e] at q1;obtain rfl:=Oi q1;exact Nat.lt_irrefl _ q4);exact⟨λhh p hp=>by rw[<-cB (hq p hp) (x:=x)];exact hh p hp,λhh p hp=>by rw[cB (hq p hp)];exact hh p hp⟩
 -- a later operation that is done does not write what this one touches
 have hlaterR:∀j m Yu,m∈R->i<j->j<heads.length->Wr S j m Yu->listed.getD j false=false:=by
  intro j m Yu hm hij hj h2;cases hl:listed.getD j false with
  | false=>rfl
  | true=>
   have:=F.order rfl inv hij hj (.inr ⟨by rw[Yw.rds];exact vc hm,Yu,h2⟩) λoj hoj e he hb=>inv.closed j oj hoj hl e he hb;rw[hu'] at this;cases this
 have hlaterW:∀j m sb Yu,Wr S i m sb->i<j->j<heads.length->Wr S j m Yu->listed.getD j false=false:=by
  intro j m sb Yu h1 hij hj h2;cases hl:listed.getD j false with
  | false=>rfl
  | true=>
   have:=F.order rfl inv hij hj (.inl ⟨⟨sb,h1⟩,.inl ⟨Yu,h2⟩⟩) λoj hoj e he hb=>inv.closed j oj hoj hl e he hb;rw[hu'] at this;cases this
 -- what it touches is what was foretold
 have hcur:∀m∈R,∀sb,look (S i).H m=some sb->cS ρ W m sb:=by
  intro m hm sb hl;rcases F.heap i (by omega) m sb hl with ⟨q1,q2⟩|⟨j,q1,q2,q3⟩
  refine h.con m sb q1 λj sb2 hj hwj=>?_;rcases Nat.lt_trichotomy j i with hl|hl|hl;exact P' hwj (q2 j sb2 hl);rw[hl];exact hu';exact hlaterR j m sb2 hm hl hj hwj;have hlj:=F.order rfl inv q1 hi (.inl ⟨⟨sb,q2⟩,.inr ⟨by rw[Yw.rds];exact vc hm,o',g,R,r,Yw,hm⟩⟩) hwait;refine h.wr j m sb (by omega) hlj q2 λj' sb2 hj' hj2 hwj=>?_;rcases Nat.lt_trichotomy j' i with hl|hl|hl;exact P' hwj (q3 j' sb2 hj' hl);rw[hl];exact hu';exact hlaterR j' m sb2 hm hl hj2 hwj
 have hhok:YH C (restrict (S i).H R) ρ W:=⟨h.mem.hb,λm sb hm=>by obtain⟨h1,h2⟩:=j7 hm;exact hcur m h1 sb h2⟩
 have hnmT:(S (i+1)).nm<=(S heads.length).nm:=F.nm (by omega) (F2 _)
 -- the new name is free
 have hgiv:r.fr=true->¬Given heads st0 S listed (S i).nm:=by
  intro Zz hgn;have hnm:=Yw.nm;rw[Zz] at hnm;have hnm:(S (i+1)).nm=(S i).nm+1:=hnm;rcases hgn with X0|⟨j,q2,q3,q4,q5⟩
  have:=F.nm (i:=0) (j:=i) (by omega) (by omega);rw[F.s0] at this;omega;rcases Nat.lt_trichotomy j i with q|q|q;have:=F.nm (i:=j+1) (j:=i) (by omega) (by omega);omega;rw[q,hu'] at q3;cases q3;have:=F.nm (i:=i+1) (j:=j) (by omega) (by omega);omega
 have hfree:r.fr=true->ρ.n (S i).nm=none∧ρ.v (S i).nm=none:=λZz=>by
  constructor
  ·cases hq:ρ.n (S i).nm with
   | none=>rfl
   | some b=>exact P' (h.domn _ b hq) (hgiv Zz)
  cases hq:ρ.v (S i).nm with
  | none=>rfl
  | some b=>exact P' (h.domv _ b hq) (hgiv Zz)
 -- when it is done
 have done:∀val W' XM,ZB C ρ W (S i).nm (r.w.map Prod.fst) r.fr XM W'->(∀n sb,r.w=some (n,sb)->cS XM W' n sb)->(holds a g->den XM r.v val)->(¬holds a g->val=undef)->
   HI C nt w0 XN heads st0 S YA a0 (listed.setIfInBounds i true) XM (a.put o'.dst val) W':=by
  intro val W' XM e hc hv hu;have hnm:=Yw.nm;have hgm:∀m,Given heads st0 S listed m->Given heads st0 S (listed.setIfInBounds i true) m:=λm hm=>hm.imp id λ⟨j,q1,q2,q3⟩=>⟨j,q1,hkeep j q2,q3⟩
  have hgi2:r.fr=true->Given heads st0 S (listed.setIfInBounds i true) (S i).nm:=λZz=>(by rw[Zz] at hnm;exact .inr ⟨i,hi,hisz,hnm,rfl⟩);have hwsome:∀m sb,Wr S i m sb->r.w=some (m,sb):=λm sb hw=>by
   rcases Yw.wr with ⟨-,-,k⟩|⟨n,Yu,k1,k2,-⟩
   exact P' hw (k m sb);obtain⟨rfl,rfl⟩:=hw.uniq k2;exact k1
  have hother:∀m sb,cS ρ W m sb->(∀Yu,¬Wr S i m Yu)->cS XM W' m sb:=λm sb YU YY=>by
   refine e.cont h.mem.hb YU λhq=>?_;rcases Yw.wr with ⟨k1,-⟩|⟨n,Yu,k1,k2,-⟩
   rw[k1] at hq;cases hq;rw[k1] at hq;obtain rfl:=Oi hq;exact YY Yu k2
  refine⟨h.mem.WS e (λZz=>?_) λn hn=>?_,h.le.trans e.le,λm b hm=>?_,λm b hm=>?_,λm sb hs YY=>?_,λj m sb hj hlj hwj YY=>?_,λt s hs hr ZS=>?_,λt ht=>?_,by cases o'.dst<;>simp[Act.put,h.sz],by cases o'.dst<;>exact h.df⟩;rw[Zz] at hnm;have hnm:(S (i+1)).nm=(S i).nm+1:=hnm;omega
  ·rcases Yw.wr with ⟨k1,-⟩|⟨n',Yu,k1,-,-,k4,-⟩
   rw[k1] at hn;cases hn;rw[k1] at hn;obtain rfl:=Oi hn;rw[<-hnm] at k4;show n'<_;omega
  ·rcases e.nn m b hm with h1|⟨rfl,h2,-⟩
   exact hgm m (h.domn m b h1);exact hgi2 h2
  ·rcases e.nv m b hm with h1|⟨rfl,h2,-⟩
   exact hgm m (h.domv m b h1);exact hgi2 h2
  refine hother m sb (h.con m sb hs λj s' hj hwj=>hmono j (YY j s' hj hwj)) λYu hwi=>?_;have:=YY i Yu hi hwi;rw[hisz] at this;cases this;rcases ZD j hlj with rfl|hl;exact hc m sb (hwsome m sb hwj);refine hother m sb (h.wr j m sb hj hl hwj λj' s' h1 h2 h3=>hmono j' (YY j' s' h1 h2 h3)) λYu hwi=>?_;rcases Nat.lt_trichotomy j i with q|q|q;have:=YY i Yu q hi hwi;rw[hisz] at this;cases this;rw[q,hu'] at hl;cases hl;rw[hlaterW j m Yu sb hwi q hj hwj] at hl;cases hl
  ·cases hd:o'.dst with
   | none=>
    rcases ZD s.k ZS with e2|ZS;obtain⟨o2,g',r',q1,q2,-⟩:=F.entry hs hr;rw[e2,hho] at q1;obtain rfl:=Oi q1;rw[hd] at q2;cases q2;obtain⟨h1,h2⟩:=h.ins t s hs hr ZS;exact⟨λhh=>let ⟨x,k1,k2⟩:=h1 hh;⟨x,bE e.le _ _ k1,k2⟩,h2⟩
   | some d=>
    rcases ZD s.k ZS with e2|ZS;obtain⟨o2,g',r',q1,q2,-⟩:=F.entry hs hr;rw[e2,hho] at q1;obtain rfl:=Oi q1;rw[hd] at q2;obtain rfl:=Oi q2;have hdl:d<a.tmps.size:=(by rw[h.sz];exact(d2 d hd).1);have Z4:=Yw.sl;rw[hd,F.rg i (by omega)] at Z4;have YP:look (S heads.length).sl d=some ⟨st0.rg,i,g,r.v⟩:=F.up (i:=i+1) (by omega) (F2 _) (by rw[Z4];exact ai _ _ _) rfl;rw[hs] at YP;obtain rfl:=Oi YP;exact⟨λhh=>⟨val,hv ((hatd d val hd).1 hh),fO hdl⟩,λhn=>by rw[fO hdl,hu λhh=>hn ((hatd d val hd).2 hh)]⟩;exact hstay XM d val hd e.le t s hs hr ZS
  cases hd:o'.dst with
  | none=>exact h.out t λj oj h1 h2=>hmono j (ht j oj h1 h2)
  | some d=>
   rw[cB];exact h.out t λj oj h1 h2=>hmono j (ht j oj h1 h2);rintro rfl;have:=ht i o' hho hd;rw[hisz] at this;cases this
 split
 ·rename_i hww;have hh:=hw.1 hww;refine Gl (nm:=(S i).nm) hhok hfree (XZ hh) d1 hD (hgi hh) λval W' hp=>?_;obtain⟨XM,p1,p2,p3⟩:=hp;exact hK _ W' ⟨XM,done val W' XM p1 p2 (λ_=>p3) λhn=>P' hh hn⟩
 rename_i hww;have hn:¬holds a g:=λhh=>hww (hw.2 hh);have hnone:r.w=none∧r.fr=false:=by
  rcases xp Yw.w with h1|⟨n,sb,-,rfl,-⟩
  exact h1;exact P' (holds_nil a) hn
 have e:ZB C ρ W (S i).nm (r.w.map Prod.fst) r.fr ρ W:=by rw[hnone.1,hnone.2];exact ZB.rm h.mem.hb (Gr.refl W)
 exact hK _ W ⟨ρ,done undef W ρ e (λn sb h=>by rw[hnone.1] at h;cases h) (λhh=>P' hh hn) λ_=>rfl⟩
theorem HI.later{a:Act}{W:World}{st0:St}{W2:World}(h:HI C nt w0 XN heads st0 S YA a0 listed ρ a W)(r:Rv W W2):HI C nt w0 XN heads st0 S YA a0 listed ρ a W2:=by
 have g:Gr W W2:=⟨r.os,r.tape,r.output,r.size,λb hb=>r.same hb⟩
 have e:=ZB.rm (nm:=0) h.mem.hb g;exact⟨h.mem.gr g,h.le,h.domn,h.domv,λm sb h1 h2=>e.cont h.mem.hb (h.con m sb h1 h2) (by simp),λi m sb h1 h2 h3 h4=>e.cont h.mem.hb (h.wr i m sb h1 h2 h3 h4) (by simp),h.ins,h.out,h.sz,h.df⟩
theorem E9(F:cQ Γ nt ops.toList heads st0 S)(hn:heads.length=n)(h0:RI C nt w0 XN st0 YA a0 W1)(listed:Array Bool)(a:Act)(W:World)(i:Nat)(o:Oper)(inv:HeadInv .any ops n listed)(hI:∃ρ,HI C nt w0 XN heads st0 S YA a0 listed ρ a W)(hi:i<n)(ho:ops[i]? = some o)(hho:heads[i]? = some o)(hu':listed.getD i false=false)(X7:∀e∈o.after,Region.binds .any e=true->listed.getD e.on false=true)(K:Act->World->Prop)(hK:∀a' W',(∃ρ,HI C nt w0 XN heads st0 S YA a0 (listed.setIfInBounds i true) ρ a' W')->K a' W') :
  if Region.wanted o (yielded ops a.tmps)=true then OpJ C.P C.co o a W K else K (a.put o.dst undef) W:=by
 have h1:=wP F hn h0 listed a W i o inv hI hi ho hho hu' X7 K hK;split;rename_i hw;refine⟨Pm F hn h0 listed a W i o inv hI hi ho hho hu' X7 hw,λW2 r=>?_⟩;obtain⟨ρ,hI⟩:=hI;have h2:=wP F hn h0 listed a W2 i o inv ⟨ρ,hI.later r⟩ hi ho hho hu' X7 K hK;rw[Xl hw] at h2;exact h2;rename_i hw;rw[Xk hw] at h1;exact h1
end
end Go.Proofs.YtmdpdknpapjchaaGreatDoor
