/- Company, 64: a range over a function that hands over elements. -/
import Derived.Test.YtgigkennhdolpaaGreatDoorM27
namespace Go.Proofs.YtgigkennhdolpaaGreatDoor
open Go.Conc Go.RowKit
section
variable {PP:Program}{C:Cx PP}{ρ UM:Names}{W W' w0:World}{r nm nt:Nat}
theorem HB.jW(h:HB C ρ W){Z:Nat->Nat->Value->Prop}(hZ:∀b i c,Z b i c->W.cell? ⟨b,i,none⟩=some c∧c.oneCell'=true):HB C (ρ.jW Z) W:=
 ⟨h.own,h.low,λb i c hz=>hz.elim (h.zok b i c) (hZ b i c),h.grd⟩
theorem cS.jW{n:Nat}{sb:SB}(h:cS ρ W n sb){Z:Nat->Nat->Value->Prop}(hZ:∀b i c,bT ρ n b->¬Z b i c):cS (ρ.jW Z) W n sb:=by
 cases sb with
 | gone=>trivial
 | lay cs ty=>obtain⟨b,vs,h1,h2,h3,h4,h5⟩:=h;exact⟨b,vs,h1,aE Names.bp _ _ h2,h3,h4,λi c hz=>hz.elim (h5 i c) (hZ b i c (.inl h1))⟩
 | lst e sz N f ty=>
  obtain⟨l,h1,h2,h3,h4,h5⟩:=h;exact⟨l,h1,h2,h3,h4,λhc=>let ⟨b,u,k1,k2,k3,k4,k5,k6⟩:=h5 hc;⟨b,u,k1,k2,k3,k4,λi c hz=>hz.elim (k5 i c) (hZ b i c (.inr (.inl ⟨e,l,0,h1,h2,hc,k1⟩))),λi hi=>let ⟨us,q1,q2⟩:=k6 i hi;⟨us,aE (Names.le.zo Names.bp) _ _ q1,q2⟩⟩⟩
 | mp k ag has g=>obtain⟨b,es,cl,h1,h2,h3,h4⟩:=h;exact⟨b,es,cl,h1,h2,h3,λx hx=>let ⟨m,q1,q2,u,q3,q4⟩:=h4.keys x hx;⟨m,q1,q2,u,aE (Names.le.zo Names.bp) _ _ q3,q4⟩,h4.yes⟩
 | nst e sz N f p Vb g tk ty last=>exact m6 h hZ
def Names.own(Vq ρ:Names):Names:=⟨Vq.n,Vq.v,Vq.k,ρ.z,[],λb=>∃n,bT ρ n b⟩
theorem Mem.start{W1:World}{Vq:Names}(h:Mem C W1 Vq.VE nm ρ W):Mem C W (Vq.own ρ) nm ρ W:=
 ⟨h.hb,h.dom,h.domv,h.domk,⟨h.le.n,h.le.v,h.le.k,λ_ _ _ h=>h⟩,λn _ ho=>.inl (.inr ⟨n,ho⟩),λ_ _ _ hz=>.inl hz,.refl _ _⟩
theorem Mem.via{W1:World}{Vq Wy:Names}{Vv:Nat}(h:Mem C W1 Vq.VE nm ρ W)(k:Mem C W (Vq.own ρ) Vv Wy W'):Mem C W1 Vq.VE Vv Wy W':=by
 have hs:=h.keep.size;have WG:∀b,iX (Vq.own ρ) b->iX Vq.VE b∨W1.heap.size<=b:=λb hm=>by
  rcases hm with ⟨n,hn⟩|⟨n,hn⟩
  exact .inl (.inl ⟨n,hn⟩);exact h.old n b hn
 refine⟨k.hb,k.dom,k.domv,k.domk,⟨k.le.n,k.le.v,k.le.k,λb i c x=>k.le.z b i c (h.le.z b i c x)⟩,λn b hn=>?_,λb i c hz=>?_,k.keep.os.trans h.keep.os,k.keep.tape.trans h.keep.tape,k.keep.output.trans h.keep.output,Nat.le_trans hs k.keep.size,λb hb hn=>?_⟩;rcases k.old n b hn with h1|h1;exact WG b h1;exact .inr (by omega);rcases k.zold b i c hz with h1|h1|h1;exact h.zold b i c h1;exact .inr (.inl (by omega));rcases WG b h1 with h2|h2;exact .inr (.inr h2);exact .inr (.inl h2);exact(k.keep.block b (by omega) λhm=>(WG b hm).elim hn λh=>by omega).trans (h.keep.block b hb hn)
theorem Mem.wo{W1:World}{Vq Wy:Names}{Vv b:Nat}(k:Mem C W (Vq.own ρ) Vv Wy W')(h1:∀n,¬bT Vq n b)(h2:∀n,¬bT ρ n b)(hb:b<W.heap.size):(∀n,¬bT Wy n b)∧W'.heap[b]? = W.heap[b]?:=by
 have hm:¬iX (Vq.own ρ) b:=λhm=>by
  rcases hm with ⟨n,hn⟩|⟨n,hn⟩
  exact h1 n hn;exact h2 n hn
 refine⟨λn ho=>?_,k.keep.block b hb hm⟩;rcases k.old n b ho with h|h;exact hm h;omega
end
def Q1{PP:Program}(C:Cx PP)(gf:Nat)(cap:List SV)(n:Nat)(f:Nat->List SV):Prop:=
 ∀(l:Nat) (J:(Nat->Nat->Value->Prop)->Nat->World->Prop) (z:Nat->Nat->Value->Prop) (W:World) (vs:List Value),aj (aD z) cap vs->J z 0 W->
  (∀z k W,J z k W->C.WT W∧∀b i c,z b i c->W.cell? ⟨b,i,none⟩=some c∧c.oneCell'=true)->
  (∀(z z':Nat->Nat->Value->Prop) k W W',J z k W->Gr W W'->(∀b i c,z' b i c->(z b i c∨W.heap.size<=b)∧W'.cell? ⟨b,i,none⟩=some c∧c.oneCell'=true)->J (λb i c=>z b i c∨z' b i c) k W')->
  (∀z k W us,J z k W->k<n->aj (aD z) (f k) us->Kr C.P C.co l us.toArray W λv W'=>v=.bool true∧J z (k+1) W')->
  br C.P C.co gf (#[.func (.yield l) #[] #[]]++vs.toArray) W λe W'=>(∃v,e=.returned v)∧∃z,J z n W'
structure tP where
 α:Type
 P:α->Prop
 idx:α->Nat
 H:α->aY
 nm:α->Nat
def tP.J(c:tP)(a:c.α):St:=⟨[],c.H a,c.nm a,0,[],[]⟩
def tP.at_(c:tP)(nm0:Nat)(k:Nat)(st:St):Prop:=∃(a:c.α) (σ:List (Nat×Nat)) (t:List Tr),c.idx a=k∧c.P a∧Ge nm0 σ (c.J a) (trs nm0 t st)
section
variable {PP:Program}{C:Cx PP}{Γ:List (UO C)}{nt:Nat}{I:Ya}{inls:List Nat}
def RInv(C:Cx PP)(c:tP)(Vq:Names)(W1:World)(lr D:Nat)(o:Obj)(z:Nat->Nat->Value->Prop)(k:Nat)(W:World):Prop:=
 ∃a ρ,c.idx a=k∧c.P a∧(∀b i v,z b i v->ρ.z b i v)∧Mem C W1 Vq.VE (c.nm a) ρ W∧(∀n sb,look (c.H a) n=some sb->cS ρ W n sb)∧(∀n,¬bT ρ n lr)∧(∀n,¬bT ρ n D)∧W.heap[lr]? = some o∧W.heap[D]? = some (.deferred (some []))
theorem tP.at_.rp{c:tP}{nm0 k:Nat}{st:St}{UM ρ:Names}{w0:World}{a:Act}{W:World}(Vf:∀n b,UM.n n=some b->n<nm0)(US:∀e l,UM.v e=some l->e<nm0∧l.o<nm0)(UT:∀m i l,UM.k m i=some l->m<nm0)(h:c.at_ nm0 k st)(hr:Rp C nt w0 UM st ρ a W) :
  ∃b UL,c.idx b=k∧c.P b∧Rp C nt w0 UM (c.J b) UL a W:=by
 obtain⟨b,σ,t,hk,hp,hle⟩:=h;obtain⟨UL,VC⟩:=vD (t:=t) Vf US UT hr;exact⟨b,_,hk,hp,hle.rp Vf US UT VC⟩
theorem RInv.gr{c:tP}{Vq:Names}{W1 W W':World}{lr D:Nat}{o:Obj}{z z':Nat->Nat->Value->Prop}{k:Nat}(hi:RInv C c Vq W1 lr D o z k W)(gr:Gr W W')(V5:∀b i c,z' b i c->(z b i c∨W.heap.size<=b)∧W'.cell? ⟨b,i,none⟩=some c∧c.oneCell'=true) :
  RInv C c Vq W1 lr D o (λb i c=>z b i c∨z' b i c) k W':=by
 obtain⟨b,ρ,h1,h2,h3,h4,h5,h6,h7,h8,h9⟩:=hi;refine⟨b,ρ.jW (λb i v=>z' b i v∧W.heap.size<=b),h1,h2,λb i v hz=>?_,⟨(h4.hb.gr gr).jW λb i v hz=>(V5 b i v hz.1).2,h4.dom,h4.domv,h4.domk,h4.le.trans Names.bp,h4.old,λb i v hz=>?_,h4.keep.gr gr⟩,λm sb hm=>?_,h6,h7,?_,?_⟩;rcases hz with hz|hz;exact .inl (h3 b i v hz);rcases (V5 b i v hz).1 with h|h;exact .inl (h3 b i v h);exact .inr ⟨hz,h⟩;rcases hz with hz|hz;exact h4.zold b i v hz;have:=h4.keep.size;exact .inr (.inl (by omega))
 ·have Vg:VQ C (c.H b) ρ W:=⟨h4.hb,h5⟩
  exact((Vg.gr gr).blk m sb hm).jW λb' i v ho hz=>by have:=(h4.hb.low m b' ho).2;omega
 exact(Below.block gr _ (E'.1 h8).1).trans h8;exact(Below.block gr _ (E'.1 h9).1).trans h9
def iI(rg:Nat):List Nat->List SV->List (Nat×Slot)
 | p::ps,v::vs=>(p,⟨rg,0,[],v⟩)::iI rg ps vs
 | _,_=>[]
def tU:List Nat->List Value->Array Value->Array Value
 | p::ps,u::us,t=>tU ps us (t.setIfInBounds p u)
 | _,_,t=>t
theorem uA:∀(ps:List Nat) (us:List Value) (t:Array Value),(tU ps us t).size=t.size
 | [],_,_=>rfl
 | _::_,[],_=>rfl
 | p::ps,u::us,t=>by rw[tU,uA ps us];simp
theorem vI{t:Nat} : ∀(ps:List Nat) (us:List Value) (ts:Array Value),t ∉ ps->(tU ps us ts)[t]? = ts[t]?
 | [],_,_,_=>rfl
 | _::_,[],_,_=>rfl
 | p::ps,u::us,ts,h=>by rw[tU,vI ps us _ λe=>h (Ux _ e),Un (λe=>h (by rw[<-e];exact Um ..))]
theorem Ey:∀(ps:List Nat) (us:List Value) (ts:Array Value),ps.length=us.length->(ps.toArray.zip us.toArray).foldl (λtmps (x:Tmp×Value)=>tmps.setIfInBounds x.1 x.2) ts=tU ps us ts:=by
 intro ps us ts h;have key:∀(ps:List Nat) (us:List Value) (ts:Array Value),(ps.zip us).foldl (λtmps (x:Tmp×Value)=>tmps.setIfInBounds x.1 x.2) ts=tU ps us ts:=by
  intro ps
  induction ps with
  | nil=>intro us ts;rfl
  | cons p ps ih=>
   intro us ts;cases us with
   | nil=>rfl
   | cons u us=>exact ih us _
 rw[<-key];simp
theorem uo{ρ:Names}{rg:Nat}{sl:List (Nat×Slot)}{t:Nat}{s:Slot} : ∀(ps:List Nat) (vs:List SV) (us:List Value) (ts:Array Value),ps.Nodup->ps.length=vs.length->(∀p∈ps,p<ts.size)->aj ρ vs us->look (iI rg ps vs++sl) t=some s->
  (t∈ps∧s.rg=rg∧∃x,den ρ s.v x∧(tU ps us ts)[t]? = some x)∨(t ∉ ps∧look sl t=some s)
 | [],_,_,_,_,_,_,_,h=>.inr ⟨List.not_mem_nil,h⟩
 | p::ps,[],_,_,_,hl,_,_,_=>by simp at hl
 | p::ps,v::vs,us,ts,hn,hl,UY,hd,h=>by
  obtain⟨u,ZV,rfl,Wl,Xe⟩:=hd;obtain⟨hn1,hn2⟩:=List.nodup_cons.1 hn;have h:look ((p,⟨rg,0,[],v⟩)::(iI rg ps vs++sl)) t=some s:=h;by_cases e:p=t;subst e;rw[af] at h;obtain rfl:=Oi h;refine .inl ⟨Um ..,rfl,u,Wl,?_⟩;rw[tU,vI ps ZV _ hn1];have:=UY p (Um ..);simp[this];rw[ab _ _ e] at h;rcases uo ps vs ZV (ts.setIfInBounds p u) hn2 (by simpa using hl) (λq hq=>by simpa using UY q (Ux _ hq)) Xe h with ⟨h1,h2,h3⟩|⟨h1,h2⟩
  exact .inl ⟨Ux _ h1,h2,h3⟩;exact .inr ⟨λhm=>by exact(UB.1 hm).elim (λq=>e q.symm) h1,h2⟩
theorem vo{nm0:Nat}{h:XA}{w0:World}{UM:Names}{E:Goroutine->World->Prop}{b:Frame}{cs:List Frame}{k:List Item}(hE:Closed C.P C.co E)(hm:C.P.follows .mixedOrders=true)(hI:eu C I)(hb:b.kind≠.early)(VX:b.roundOf=none){g:Operand}{ps:List Nat}{VB body:Code}{gf:Nat}{cap:List SV}{n:Nat}{f:Nat->List SV}{c:tP}{st:St}{Ds:List Nat}{Vq:Names}{a:Act}{W1:World}(A:AtR C nt w0 UM nm0 Ds st Vq a W1)
  (hg:qd st.sl g=some (.f (.func gf) [] cap)) (Z2:da cap=true) (eg:∀args w,(callFunc gf args).run C.P w=.ok (.enter gf args) w) (ens:∀args,NS C.P (callFunc gf args))
  (hit:Q1 C gf cap n f) (Yx:ps.Nodup) (hp:∀p∈ps,p<nt) (hpl:∀k,ps.length=(f k).length) (hBa:du h.fl VB=true) (hBb:du h.fl body=true)
  (h0:c.at_ st.nm 0 st)
  (XY:∀b,c.P b->c.idx b<n->ev Γ nt st.nm I inls h VB ⟨iI st.rg ps (f (c.idx b))++st.sl,c.H b,c.nm b,st.rg,[],[]⟩ λe Ze=>match e with
   | .normal=>ev Γ nt st.nm I inls h body Ze λe st3=>match e with
    | .normal=>c.at_ st.nm (c.idx b+1) st3
    | _=>False
   | _=>False)
  (hK:∀x D UL a' W',c.P x->c.idx x=n->AtR C nt w0 UM (c.nm x) (D::Ds) ⟨st.sl,c.H x,c.nm x,st.rg,[],[]⟩ UL a' W'->E (G (b.at a' k) cs) W'):E (G (b.at a (.code (.rangeFunc g ps.toArray VB body)::k)) cs) W1:=by
 obtain⟨U1,X9,ZJ⟩:=A.all;obtain⟨wa,ρa,ma,mka,hr⟩:=A.ex;obtain⟨u,lb,hu,VG,hga⟩:=fY hr hg;obtain rfl:=cd hu;have Vf:∀n b,Vq.n n=some b->n<st.nm:=U1.dom;have US:∀e l,Vq.v e=some l->e<st.nm∧l.o<st.nm:=U1.domv;have UT:∀m i l,Vq.k m i=some l->m<st.nm:=U1.domk;have hcapz:aj (aD Vq.z) cap lb:=cu _ _ Z2 VG;have Z4:∀b,W1.heap.size<=b->∀n,¬bT Vq n b:=λb hb n ho=>by have:=(U1.hb.low n b ho).2;omega
 have hself:Mem C W1 Vq.VE st.nm Vq W1:=Mem.refl U1.hb Vf US UT;refine MI (X:=λD l _ W'=>∃z,RInv C c Vq W1 l D (.loop (oa b.fn a.tmps ps.toArray VB body D .ready)) z n W') hE hb VX hga eg ens (λD l W2 g2 hD hDl hl hD2 hL2=>?_) λD l W2 W3 W4 o g2 hD hDl hl hX r4 hD4 hl4=>?_
 ·-- X5 walk of X5 function
  have Wk:∀{ρb UL:Names} {Wb W':World} {UZ:St} {a':Act} {k:Nat},Rp C nt Wb (Vq.own ρb) UZ UL a' W'->c.at_ st.nm k UZ->l<Wb.heap.size->(∀n,¬bT ρb n l)->(∀n,¬bT ρb n D)->
    ∃b Wy,c.idx b=k∧c.P b∧Mem C Wb (Vq.own ρb) (c.nm b) Wy W'∧(∀n sb,look (c.H b) n=some sb->cS Wy W' n sb)∧(∀n,¬bT Wy n l)∧(∀n,¬bT Wy n D)∧W'.heap[l]? = Wb.heap[l]?∧W'.heap[D]? = Wb.heap[D]?:=by
   intro ρb UL Wb W' UZ a' k VC hat Xc hn1 hn2;obtain⟨b,Wy,h1,h2,h3⟩:=tP.at_.rp (UM:=Vq.own ρb) Vf US UT hat VC;obtain⟨k1,k2⟩:=h3.base.mem.wo (W1:=W1) (Z4 _ (by omega)) hn1 Xc;obtain⟨k3,k4⟩:=h3.base.mem.wo (W1:=W1) (Z4 _ (by omega)) hn2 (by omega);exact⟨b,Wy,h1,h2,h3.base.mem,h3.base.blk,k1,k3,k2,k4⟩
  have Xr:Mem C W1 Vq.VE st.nm Vq W2:=hself.gr g2;have hstart:RInv C c Vq W1 l D (.loop (oa b.fn a.tmps ps.toArray VB body D .ready)) Vq.z 0 W2:=by
   have hrp:Rp C nt W2 (Vq.own Vq) st Vq {tmps:=a.tmps,defers:=[]} W2:=⟨⟨Xr.start,λn sb hn=>(hr.base.Vg.gr g2).blk n sb hn,hr.base.sz,rfl⟩,hr.rgs,hr.cA⟩
   obtain⟨b,Wy,h1,h2,h3,h4,h5,h6,h7,h8⟩:=Wk hrp h0 hl (Z4 _ (by omega)) (Z4 _ (by omega));exact⟨b,Wy,h1,h2,h3.le.z,Xr.via h3,h4,h5,h6,h7.trans hL2,h8.trans hD2⟩
  refine br.mono (hit l (RInv C c Vq W1 l D (.loop (oa b.fn a.tmps ps.toArray VB body D .ready))) Vq.z W2 lb hcapz hstart ?_ ?_ ?_) ?_;rintro z k W ⟨b,ρ,h1,h2,h3,h4,-⟩;exact⟨h4.hb.grd,λb i v hz=>h4.hb.zok b i v (h3 b i v hz)⟩;intro z z' k W W' hi gr V5;exact hi.gr gr V5
  ·-- a round
   intro z k W us Xh XM hu W5 r5;obtain⟨x,ρ,h1,h2,h3,h4,h5,h6,h7,h8,h9⟩:RInv C c Vq W1 l D (.loop (oa b.fn a.tmps ps.toArray VB body D .ready)) z k W5:=(by obtain⟨x,ρ,h1,h2,h3,h4,h5,h6,h7,h8,h9⟩:=Xh;have gr:=cQ r5;exact⟨x,ρ,h1,h2,h3,h4.gr gr,λm sb hm=>(VQ.gr ⟨h4.hb,h5⟩ gr).blk m sb hm,h6,h7,r5.heap _ _ h8,r5.heap _ _ h9⟩);have hszW:l<W5.heap.size:=(E'.1 h8).1;have hul:ps.length=us.length:=(hpl k).trans (aB hu).symm;have hy:=run_yield (P:=C.P) (args:=us.toArray) h8 (by show us.toArray.size=ps.toArray.size;simp[hul]);replace hy:=hy.trans (Uo (λt=>Result.ok (Next.round l b.fn t VB body) W5) (Ey ps us a.tmps hul));have Zi:aj ρ (f (c.idx x)) us:=aE (ρ:=aD z) ⟨λ_ _ h=>(by cases h),λ_ _ h=>(by cases h),λ_ _ _ h=>(by cases h),h3⟩ _ _ (by rw[h1];exact hu);have hrp:Rp C nt W5 (Vq.own ρ) ⟨iI st.rg ps (f (c.idx x))++st.sl,c.H x,c.nm x,st.rg,[],[]⟩ ρ {tmps:=tU ps us a.tmps,defers:=[]} W5:=by
    have key:=λt s hs=>uo (ρ:=ρ) (rg:=st.rg) (sl:=st.sl) (t:=t) (s:=s) ps (f (c.idx x)) us a.tmps Yx (hpl _) (λq hq=>by rw[hr.base.sz];exact hp q hq) Zi hs;refine⟨⟨h4.start,h5,by rw[<-hr.base.sz];exact uA ps us a.tmps,rfl⟩,λt s hs=>?_,λt s hs hg=>?_⟩
    ·rcases key t s hs with ⟨-,e,-⟩|⟨-,h⟩
     rw[e];exact I' _;exact hr.rgs t s h
    rcases key t s hs with ⟨-,-,h⟩|⟨hn,h⟩
    exact h;obtain⟨y,k1,k2⟩:=hr.cA t s h hg;exact⟨y,bE (ρ:=Vq) (UL:=ρ) ⟨h4.le.n,h4.le.v,h4.le.k,h4.le.z⟩ _ _ k1,(vI ps us a.tmps hn).trans k2⟩
   refine⟨b.fn,_,VB,body,hy,?_⟩;have hA:=dC (UM:=Vq.own ρ) hI hm Vf US UT VB _ _ hBa (XY x h2 (by rw[h1];exact XM)) ρ _ W5 hrp;refine Hu (Mid:=λa2 W3=>∃Ze Wy,(ev Γ nt st.nm I inls h body Ze λe st3=>match e with|.normal=>c.at_ st.nm (c.idx x+1) st3|_=>False)∧Rp C nt W5 (Vq.own ρ) Ze Wy a2 W3) (dY hA ?_) ?_
   ·rintro e a2 W3 ⟨y,Ze,Wy,rfl,XI,WE⟩;cases y with
    | exit i=>exact XI.elim
    | ret=>exact XI.elim
    | normal=>exact⟨rfl,Ze,Wy,XI,WE⟩
   rintro a2 W3' ⟨Ze,Wy,XI,hr2'⟩ W3 r3;have WE:=hr2'.later r3;obtain⟨o1,b1⟩:=WE.base.mem.wo (W1:=W1) (b:=l) (Z4 _ (by omega)) h6 hszW;obtain⟨o2,b2⟩:=WE.base.mem.wo (W1:=W1) (b:=D) (Z4 _ (by omega)) h7 (by omega);have hl3:=b1.trans h8;have hd3:=b2.trans h9;refine⟨_,run_beginRound hl3 rfl,?_⟩;have t34:=lx (.loop {oa b.fn a.tmps ps.toArray VB body D .ready with state:=.busy}) hl3 rfl rfl;have hm4:Mem C W1 Vq.VE Ze.nm Wy (W3.putObj l (.loop {oa b.fn a.tmps ps.toArray VB body D .ready with state:=.busy})):=(h4.via WE.base.mem).iZ t34 (by omega);have hl4:(W3.putObj l (.loop {oa b.fn a.tmps ps.toArray VB body D .ready with state:=.busy})).heap[l]? = some (.loop {oa b.fn a.tmps ps.toArray VB body D .ready with state:=.busy}):=World.putObj_heap_same (E'.1 hl3).1;have hd4:(W3.putObj l (.loop {oa b.fn a.tmps ps.toArray VB body D .ready with state:=.busy})).heap[D]? = some (.deferred (some [])):=(World.putObj_heap_other (by omega)).trans hd3;have hrp4:Rp C nt (W3.putObj l (.loop {oa b.fn a.tmps ps.toArray VB body D .ready with state:=.busy})) (Vq.own Wy) Ze Wy a2 (W3.putObj l (.loop {oa b.fn a.tmps ps.toArray VB body D .ready with state:=.busy})):=
    ⟨⟨hm4.start,λm sb hs=>(WE.base.blk m sb hs).iZ t34,WE.base.sz,WE.base.df⟩,WE.rgs,WE.cA⟩
   have hB:=dC (UM:=Vq.own Wy) hI hm Vf US UT body _ _ hBb XI Wy _ _ hrp4;refine dY hB ?_;rintro e a5 W6 ⟨y,st3,ρ3,rfl,hev3,hr3⟩;cases y with
   | exit i=>exact hev3.elim
   | ret=>exact hev3.elim
   | normal=>
   refine⟨rfl,λW7 r7=>?_⟩;have hsz4:l<(W3.putObj l (.loop {oa b.fn a.tmps ps.toArray VB body D .ready with state:=.busy})).heap.size:=(E'.1 hl4).1;obtain⟨x',ρ5,q1,q2,q3,q4,q5,q6,q7,q8⟩:=Wk (hr3.later r7) hev3 hsz4 o1 o2;have hl5:=q7.trans hl4;have hd5:=q8.trans hd4;have t56:=lx (.loop { ({oa b.fn a.tmps ps.toArray VB body D .ready with state:=.busy} : Loop) with state:=if (none:Option Code).isNone then .ready else .done,pending:=none}) hl5 rfl rfl;refine⟨_,_,run_endRound (P:=C.P) none hl5,rfl,x',ρ5,q1.trans (by rw[h1]),q2,λb i v hz=>q3.le.z b i v (WE.base.mem.le.z b i v (h3 b i v hz)),(hm4.via q3).iZ t56 (by omega),λm sb hs=>(q4 m sb hs).iZ t56,q5,q6,?_,?_⟩;rw[World.putObj_heap_same (E'.1 hl5).1];rfl;exact(World.putObj_heap_other (by omega)).trans hd5
  rintro e W' ⟨⟨v,rfl⟩,z,hi⟩;have VT:=hi;obtain⟨x,ρ,h1,h2,h3,h4,h5,h6,h7,h8,h9⟩:=VT;exact⟨⟨v,rfl⟩,h9.trans hD2.symm,h8.trans hL2.symm,z,hi⟩
 ·-- behind it
  obtain⟨z,x,ρ,h1,h2,h3,h4,h5,h6,h7,h8,h9⟩:=hX;have gr4:=cQ r4;have t:=lx (.loop {o with state:=.exhausted}) hl4 rfl rfl;have hs:=U1.keep.size;have hmW:Mem C W1 Vq.VE (c.nm x) ρ W4:=h4.gr gr4;have hmem3:Mem C w0 UM (c.nm x) ρ W4:=U1.trans hmW;have WH:=hmem3.iZ t (by omega);have hok4:VQ C (c.H x) ρ W4:=VQ.gr ⟨h4.hb,h5⟩ gr4;have hno3:∀D',D'<W1.heap.size->(∀n,¬bT Vq n D')->(∀n,¬bT ρ n D')∧W4.heap[D']? = W1.heap[D']?:=λD' Yj hn=>by
   have hm:¬iX Vq.VE D':=λhm=>by
    rcases hm with ⟨n,ho⟩|ho
    exact hn n ho;exact ho
   refine⟨λn ho=>?_,hmW.keep.block D' Yj hm⟩;rcases hmW.old n D' ho with h|h;exact hm h;omega
  refine hK x D ρ _ _ h2 h1 ⟨⟨_,ρ,WH,λD' Yj=>?_,⟨⟨⟨WH.hb,WH.dom,WH.domv,WH.domk,⟨λ_ _ h=>h,λ_ _ h=>h,λ_ _ _ h=>h,λ_ _ _ h=>h⟩,λn _ ho=>.inl (.inl ⟨n,ho⟩),λ_ _ _ hz=>.inl hz,.refl _ _⟩,λn sb hn=>(hok4.blk n sb hn).iZ t,hr.base.sz,?_⟩,hr.rgs,λt s hs hg=>?_⟩⟩,?_⟩;rcases UB.1 Yj with rfl|Yj;refine⟨?_,h7,by omega⟩;rw[World.putObj_heap_other (by omega)];exact hD4;obtain⟨q1,q2,q3⟩:=ZJ D' Yj;have UY:D'<W1.heap.size:=(E'.1 q1).1;obtain⟨q4,q5⟩:=hno3 D' UY q2;refine⟨?_,q4,q3⟩;rw[World.putObj_heap_other (by omega)];exact q5.trans q1;show {target:=.collected D,args:=#[]}::a.defers=_;rw[X9];rfl;obtain⟨y,k1,k2⟩:=hr.cA t s hs hg;exact⟨y,bE (ρ:=Vq) ⟨hmW.le.n,hmW.le.v,hmW.le.k,hmW.le.z⟩ _ _ k1,k2⟩;refine List.nodup_cons.2 ⟨λYj=>?_,A.nd⟩;have:=(E'.1 (ZJ D Yj).1).1;omega
end
end Go.Proofs.YtgigkennhdolpaaGreatDoor
