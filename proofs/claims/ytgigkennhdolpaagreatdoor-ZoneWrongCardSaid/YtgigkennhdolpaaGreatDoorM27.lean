/- Company, 54: functions with ranges over functions that hand over nothing. -/
import Derived.Test.YtgigkennhdolpaaGreatDoorM26
import Derived.Test.YtgigkennhdolpaaGreatDoorM13
namespace Go.Proofs.YtgigkennhdolpaaGreatDoor
open Go.Conc Go.RowKit
structure qE (W W':World) (r:Nat):Prop where
 os:W'.os=W.os
 tape:W'.tape=W.tape
 output:W'.output=W.output
 size:W'.heap.size=W.heap.size
 block:∀b,b≠r->W'.heap[b]? = W.heap[b]?
 obj:∃o,W.heap[r]? = some o∧o.isCells=false∧o.isWalk=false
theorem lx{W:World}{r:Nat}{o:Obj}(o':Obj)(h:W.heap[r]? = some o)(h1:o.isCells=false)(h2:o.isWalk=false):qE W (W.putObj r o') r:=
 ⟨rfl,rfl,rfl,World.putObj_size,λ_ hb=>World.putObj_heap_other hb,o,h,h1,h2⟩
section
variable {PP:Program}{C:Cx PP}{ρ UM:Names}{W W' w0:World}{r nm nt:Nat}
theorem qE.cell(t:qE W W' r){b i:Nat}{c:Value}(h:W.cell? ⟨b,i,none⟩=some c):W'.cell? ⟨b,i,none⟩=some c:=by
 have hb:b≠r:=by rintro rfl;obtain⟨o,h1,h2,-⟩:=t.obj;unfold World.cell? at h;simp only[h1] at h;cases o<;>simp_all [Obj.isCells]
 exact(cell_of_heap (t.block b hb)).trans h
theorem qE.blk(t:qE W W' r){b:Nat}{u:Array Value}{ty:TypeId}(h:WV W b u ty):WV W' b u ty:=by
 have h':W.heap[b]? = some (.cells u ty (0,0)):=h;have hb:b≠r:=by rintro rfl;obtain⟨o,h1,h2,-⟩:=t.obj;rw[h'] at h1;obtain rfl:=Oi h1;cases h2
 exact(t.block b hb).trans h'
theorem qE.map(t:qE W W' r){b:Nat}{es:Array MapEntry}{cl:Nat}(h:W.heap[b]? = some (.map es cl)):W'.heap[b]? = some (.map es cl):=by
 have hb:b≠r:=by rintro rfl;obtain⟨o,h1,-,h2⟩:=t.obj;rw[h] at h1;obtain rfl:=Oi h1;cases h2
 exact(t.block b hb).trans h
theorem HB.iZ(h:HB C ρ W)(t:qE W W' r):HB C ρ W':=
 ⟨h.own,λn b hb=>⟨(h.low n b hb).1,by rw[t.size];exact(h.low n b hb).2⟩,λb i c hz=>⟨t.cell (h.zok b i c hz).1,(h.zok b i c hz).2⟩,
  by rw[t.size];exact h.grd.1,λb sb hb=>let ⟨h0,vs,h1,h2⟩:=h.grd.2 b sb hb;⟨h0,vs,h1,λi v hv=>t.cell (h2 i v hv)⟩⟩
theorem eX.iZ{q:LV}{sz:Nat}{f:Nat->List SV}{ty:TypeId}(h:eX ρ W q sz f ty)(t:qE W W' r):eX ρ W' q sz f ty:=
 ⟨h.1,λhc=>let ⟨b,u,k1,k2,k3⟩:=h.2 hc;⟨b,u,k1,t.blk k2,k3⟩⟩
theorem cS.iZ{n:Nat}{sb:SB}(h:cS ρ W n sb)(t:qE W W' r):cS ρ W' n sb:=by
 cases sb with
 | gone=>trivial
 | lay cs ty=>obtain⟨b,vs,h1,h2,h3,h4⟩:=h;exact⟨b,vs,h1,h2,t.blk h3,h4⟩
 | lst e sz N f ty=>
  obtain⟨l,h1,h2,h3,h4,h5⟩:=h;exact⟨l,h1,h2,h3,h4,λhc=>let ⟨b,u,k1,k2,k3⟩:=h5 hc;⟨b,u,k1,t.blk k2,k3⟩⟩
 | mp k ag has g=>obtain⟨b,es,cl,h1,h2,h3⟩:=h;exact⟨b,es,cl,h1,t.map h2,h3⟩
 | nst e sz N f p Vb g tk ty last=>
  obtain⟨l,K⟩:=h;exact⟨l,K.hv,K.ho,K.hN,K.hle,λhc=>let ⟨b,u,k1,k2,k3⟩:=K.row hc;⟨b,u,k1,t.blk k2,k3⟩,λi hi=>let ⟨q,q1,q2,q3⟩:=K.kid i hi;⟨q,q1,q2,q3.iZ t⟩,K.no,K.ne⟩
theorem Mem.iZ(h:Mem C w0 UM nm ρ W)(t:qE W W' r)(hr:w0.heap.size<=r):Mem C w0 UM nm ρ W':=
 ⟨h.hb.iZ t,h.dom,h.domv,h.domk,h.le,h.old,h.zold,t.os.trans h.keep.os,t.tape.trans h.keep.tape,t.output.trans h.keep.output,by rw[t.size];exact h.keep.size,λb hb hn=>(t.block b (by omega)).trans (h.keep.block b hb hn)⟩
theorem Rp.iZ{st:St}{a:Act}(h:Rp C nt w0 UM st ρ a W)(t:qE W W' r)(hr:w0.heap.size<=r):Rp C nt w0 UM st ρ a W':=
 ⟨⟨h.base.mem.iZ t hr,λn sb hn=>(h.base.blk n sb hn).iZ t,h.base.sz,h.base.df⟩,h.rgs,h.cA⟩
end
def lJ(D:Nat):Deferred:={target:=.collected D,args:=#[]}
def Names.dd(ρ:Names)(ds:List Deferred):Names:=⟨ρ.n,ρ.v,ρ.k,ρ.z,ds,λ_=>False⟩
section
variable {PP:Program}{C:Cx PP}{Γ:List (UO C)}{nt nm0:Nat}{I:Ya}{inls:List Nat}{h:XA}{w0:World}{UM:Names}{E:Goroutine->World->Prop}{b:Frame}{cs:List Frame}{k:List Item}
theorem Mem.dd{w1 W:World}{Vq ρ:Names}{nm:Nat}{ds:List Deferred}(h:Mem C w1 (Vq.dd ds) nm ρ W):Mem C w1 Vq.VE nm ρ W:=
 ⟨h.hb,h.dom,h.domv,h.domk,⟨h.le.n,h.le.v,h.le.k,h.le.z⟩,h.old,h.zold,h.keep.os,h.keep.tape,h.keep.output,h.keep.size,h.keep.block⟩
structure AtR (C:Cx PP) (nt:Nat) (w0:World) (UM:Names) (nm0:Nat) (Ds:List Nat) (st:St) (ρ:Names) (a:Act) (W:World):Prop where
 ex:∃w1 Vq,Mem C w0 UM nm0 Vq w1∧(∀D∈Ds,w1.heap[D]? = some (.deferred (some []))∧(∀n,¬bT Vq n D)∧w0.heap.size<=D)∧Rp C nt w1 (Vq.dd (Ds.map lJ)) st ρ a W
 nd:Ds.Nodup
theorem iH(hE:Closed C.P C.co E)(hI:eu C I)(hm:C.P.follows .mixedOrders=true)(hb:b.kind≠.early)(hr:b.roundOf=none){x:Code}{st:St}{K:Ex->St->Prop}(hB:du h.fl x=true){Ds:List Nat}{ρ:Names}{a:Act}{W:World}(A:AtR C nt w0 UM nm0 Ds st ρ a W)(he:ev Γ nt nm0 I inls h x st K)
  (next:∀e UZ UL a' W',K e UZ->AtR C nt w0 UM nm0 Ds UZ UL a' W'->LK (Ex.to e)∧Q6 E b k cs (Ex.to e) a' W'):E (G (b.at a (.code x::k)) cs) W:=by
 obtain⟨w1,Vq,m1,mk,hR⟩:=A.ex;refine(zh (UM:=Vq.dd (Ds.map lJ)) hI hm m1.dom m1.domv m1.domk x st _ hB he ρ a W hR) E hE b k cs hb hr λe a' W' ⟨x',UZ,UL,ZN,ZP,hR'⟩=>?_;subst ZN;exact next x' UZ UL a' W' ZP ⟨⟨w1,Vq,m1,mk,hR'⟩,A.nd⟩
theorem iw(hE:Closed C.P C.co E)(hI:eu C I)(hm:C.P.follows .mixedOrders=true)(hb:b.kind≠.early)(hr:b.roundOf=none){c x y y':Code}(hc:c=.seq x y'){st:St}{K:Ex->St->Prop}(Yi:cutAt h.cuts y=false)(hB:du h.fl x=true){Ds:List Nat}{ρ:Names}{a:Act}{W:World}(A:AtR C nt w0 UM nm0 Ds st ρ a W)(he:ev Γ nt nm0 I inls h (.seq x y) st K)(hK:∀e st,K e st->e=.normal)
  (next:∀UZ UL a' W',ev Γ nt nm0 I inls h y UZ K->AtR C nt w0 UM nm0 Ds UZ UL a' W'->E (G (b.at a' (.code y'::k)) cs) W'):E (G (b.at a (.code c::k)) cs) W:=by
 subst hc;refine m4 hE ?_;simp only[ev,Yi] at he;refine iH hE hI hm hb hr hB A he λe UZ UL a' W' hk A'=>?_;cases e with
 | normal=>exact⟨trivial,next UZ UL a' W' hk A'⟩
 | exit i=>exact Up (hK _ _ hk) (by simp)
 | ret=>exact Up (hK _ _ hk) (by simp)
theorem kT(hE:Closed C.P C.co E)(hI:eu C I)(hm:C.P.follows .mixedOrders=true)(hb:b.kind≠.early)(hr:b.roundOf=none){c x y':Code}(hc:c=.seq x y'){st:St}{ct:Cut}(hB:du h.fl x=true){Ds:List Nat}{ρ:Names}{a:Act}{W:World}(A:AtR C nt w0 UM nm0 Ds st ρ a W)(he:ev Γ nt nm0 I inls h x st (λe UZ=>e=.normal∧ct.at_ nm0 UZ λ_=>True))
  (next:∀u UL a' W',ct.P u->AtR C nt w0 UM nm0 Ds (ct.J u) UL a' W'->E (G (b.at a' (.code y'::k)) cs) W'):E (G (b.at a (.code c::k)) cs) W:=by
 subst hc;refine m4 hE (iH hE hI hm hb hr hB A he λe UZ UL a' W' hk A'=>?_);obtain⟨rfl,hk⟩:=hk;obtain⟨w1,Vq,m1,mk,hR⟩:=A'.ex;obtain⟨u,Wy,-,hp,hR2⟩:=hk.rp (UM:=Vq.dd (Ds.map lJ)) m1.dom m1.domv m1.domk hR;exact⟨trivial,next u Wy a' W' hp ⟨⟨w1,Vq,m1,mk,hR2⟩,A'.nd⟩⟩
theorem vn{n:Nat}{args:List SV}{vs:List Value}{ze:Nat->Nat->Value->Prop}{W:World}(hn:args.length<=n)(hG:C.WT W)(hz:∀b i c,ze b i c->W.cell? ⟨b,i,none⟩=some c∧c.oneCell'=true)(U7:aj (aD ze) args vs):AtR C n W (aD ze).VE 0 [] ⟨bL 0 args,[],0,0,[],[]⟩ (aD ze) {tmps:=vs.toArray++Array.replicate (n-vs.toArray.size) undef,defers:=[]} W:=by have hH:=fL hG hz;exact⟨⟨W,aD ze,Mem.refl hH.hb (λn b h=>by cases h) (λe l h=>by cases h) (λm i l h=>by cases h),⟨λD hD=>Up hD List.not_mem_nil,xS hn hG hz U7⟩⟩,List.nodup_nil⟩
theorem AtR.all{Ds:List Nat}{st:St}{ρ:Names}{a:Act}{W:World}(A:AtR C nt w0 UM nm0 Ds st ρ a W):Mem C w0 UM st.nm ρ W∧a.defers=Ds.map lJ∧∀D∈Ds,W.heap[D]? = some (.deferred (some []))∧(∀n,¬bT ρ n D)∧w0.heap.size<=D:=by
 obtain⟨w1,Vq,m1,mk,hR⟩:=A.ex;refine⟨m1.trans hR.base.mem.dd,hR.base.df,λD hD=>?_⟩;obtain⟨h1,h2,h3⟩:=mk D hD;have hl:D<w1.heap.size:=(E'.1 h1).1;have hn:¬iX (Vq.dd (Ds.map lJ)) D:=λhm=>by
  rcases hm with ⟨n,hn⟩|hn
  exact h2 n hn;exact hn
 refine⟨(hR.base.mem.keep.block D hl hn).trans h1,λn ho=>?_,h3⟩;rcases hR.base.mem.old n D ho with h|h;exact hn h;omega
def cn(H H':aY):Prop:=∀n sb,look H n=some sb->look H' n=some sb
theorem cn.refl(H:aY):cn H H:=λ_ _ h=>h
theorem cn.cons{H H':aY}{k:Nat}{x:SB}(h:cn H H')(hk:look H k=none):cn H ((k,x)::H'):=λn sb hn=>by rw[ab _ _ (λe=>by subst e;rw[hk] at hn;cases hn)];exact h n sb hn
theorem tE{Fs:List (V3 C)}{d m:Nat}(hE:Closed C.P C.co E)(hm:C.P.follows .mixedOrders=true)(hb:b.kind≠.early)(hr:b.roundOf=none){g:Operand}{ps:Array Tmp}{VB body code:Code}{cap:List SV}{st:St}{Ds:List Nat}{ρ:Names}{a:Act}{W:World}(A:AtR C nt w0 UM nm0 Ds st ρ a W)(F:V3 C)(hg:qd st.sl g=some (.f (.func F.f) [] cap))
  (hbd:F.fn.body=some code) (hnt:Nat.ble (cap.length+1) F.fn.ntmps=true)
  (hw:∀l,ev Γ F.fn.ntmps st.nm (jN Γ Fs d) (cw Fs) ⟨F.fl,F.cuts,F.invs,F.fu⟩ code ⟨bL 0 (.v (.func (.yield l) #[] #[])::cap),st.H,st.nm,0,[],[]⟩ (tc C F.fn.results.toList λ_ H' Vv=>cn st.H H'∧Nat.ble Vv m=true))
  (hK:∀D UL a' W',AtR C nt w0 UM m (D::Ds) ⟨st.sl,st.H,m,st.rg,[],[]⟩ UL a' W'->E (G (b.at a' k) cs) W'):E (G (b.at a (.code (.rangeFunc g ps VB body)::k)) cs) W:=by
 obtain⟨U1,X9,ZJ⟩:=A.all;obtain⟨w1,Vq,m1,mk,hR⟩:=A.ex;obtain⟨u,lb,hu,VG,hga⟩:=fY hR hg;obtain rfl:=cd hu;have V0:∀D,W.heap.size<=D->∀n,¬bT ρ n D:=λD hD n ho=>by have:=(U1.hb.low n D ho).2;omega
 refine Jr (X:=λ_ _ W2 W'=>∃UL,Mem C W2 ρ.VE m UL W'∧∀n sb,look st.H n=some sb->cS UL W' n sb) hE hb hr hga F.en (λargs=>cZ F.hf F.hB args) (λD l W2 g2 hD hDl hl=>?_) λD l W2 W3 W4 o g2 hD hDl hl hX r4 hD4 hl4=>?_
 ·have hB:du F.fl code=true:=(by have:=F.hB;unfold fQ at this;rw[hbd] at this;exact this);have hHok:VQ C st.H ρ W2:=hR.base.Vg.gr g2;have Wl:aj ρ (.v (.func (.yield l) #[] #[])::cap) (.func (.yield l) #[] #[]::lb):=aG rfl VG;have:=gQ (w0:=W2) (args:=.v (.func (.yield l) #[] #[])::cap) ⟨F.fl,F.cuts,F.invs,F.fu⟩ (c6 hm d) hm F.hf hbd hnt hB hHok U1.dom U1.domv U1.domk Wl _ (hw l);rw[show #[Value.func (.yield l) #[] #[]]++lb.toArray=(Value.func (.yield l) #[] #[]::lb).toArray by simp];refine this.mono ?_;rintro e W' ⟨v,val,H',Vv,UL,rfl,⟨hle,X8⟩,h1,h2,-⟩;have h1:=h1.up (L' X8);have h2:∀n sb,look st.H n=some sb->cS UL W' n sb:=λn sb h=>h2 n sb (hle n sb h);have hk:∀D,W.heap.size<=D->D<W2.heap.size->W'.heap[D]? = W2.heap[D]?:=λD h3 h4=>h1.keep.block D h4 λhm=>by
   rcases hm with ⟨n,hn⟩|hn
   exact V0 D h3 n hn;exact hn
  exact⟨⟨_,rfl⟩,hk D hD (by omega),hk l (by omega) hl,UL,h1,h2⟩
 obtain⟨UL,h1,h2⟩:=hX;have t:=lx (.loop {o with state:=.exhausted}) hl4 rfl rfl;have hs:=U1.keep.size;have hmem3:Mem C w0 UM m UL W4:=((U1.gr g2).trans h1).gr (cQ r4);have WH:=hmem3.iZ t (by omega);have hok4:VQ C st.H UL W4:=VQ.gr ⟨h1.hb,h2⟩ (cQ r4);have hno3:∀D,D<W2.heap.size->(∀n,¬bT ρ n D)->(∀n,¬bT UL n D)∧W3.heap[D]? = W2.heap[D]?:=λD hD hn=>by
  have hm:¬iX ρ.VE D:=λhm=>by
   rcases hm with ⟨n,ho⟩|ho
   exact hn n ho;exact ho
  refine⟨λn ho=>?_,h1.keep.block D hD hm⟩;rcases h1.old n D ho with h|h;exact hm h;omega
 refine hK D UL _ _ ⟨⟨_,UL,WH,λD' Yj=>?_,⟨⟨⟨WH.hb,WH.dom,WH.domv,WH.domk,⟨λ_ _ h=>h,λ_ _ h=>h,λ_ _ _ h=>h,λ_ _ _ h=>h⟩,λn _ ho=>.inl (.inl ⟨n,ho⟩),λ_ _ _ hz=>.inl hz,.refl _ _⟩,λn sb hn=>(hok4.blk n sb hn).iZ t,hR.base.sz,?_⟩,hR.rgs,λt s hs hg=>?_⟩⟩,?_⟩;rcases UB.1 Yj with rfl|Yj;refine⟨?_,(hno3 D' (by omega) (V0 D' hD)).1,by omega⟩;rw[World.putObj_heap_other (by omega)];exact hD4;obtain⟨q1,q2,q3⟩:=ZJ D' Yj;have UY:D'<W.heap.size:=(E'.1 q1).1;have hlt2:D'<W2.heap.size:=(by have:=g2.size;omega);obtain⟨q4,q5⟩:=hno3 D' hlt2 q2;refine⟨?_,q4,q3⟩;rw[World.putObj_heap_other (by omega)];exact r4.heap _ _ (q5.trans ((g2.block D' UY).trans q1));show {target:=.collected D,args:=#[]}::a.defers=_;rw[X9];rfl;obtain⟨x,k1,k2⟩:=hR.cA t s hs hg;exact⟨x,bE (ρ:=ρ) ⟨h1.le.n,h1.le.v,h1.le.k,h1.le.z⟩ _ _ k1,k2⟩;refine List.nodup_cons.2 ⟨λYj=>?_,A.nd⟩;have:=(E'.1 (ZJ D Yj).1).1;omega
theorem NK{f:FuncId}{fn:Func}(hE:Closed C.P C.co E)(hf:C.P.funcs[f]? = some fn){K:SV->aY->Nat->Prop}{st:St}{ρ:Names}(hk:qC C fn.results.toList st (λv=>K v st.H st.nm))
  (hc:∀v W' fr,(∃v' H' Vv UL,K v' H' Vv∧Mem C w0 UM Vv UL W'∧(∀n sb,look H' n=some sb->cS UL W' n sb)∧den UL v' v)->fr.fn=f->fr.leaving C.P W' (.returned v)->E (G fr cs) W') (todo:List Item) :
  ∀(Ds:List Nat) (a:Act) (W:World),Rp C nt w0 (UM.dd (Ds.map lJ)) st ρ a W->Ds.Nodup->(∀D∈Ds,W.heap[D]? = some (.deferred (some []))∧w0.heap.size<=D)->Mem C w0 UM st.nm ρ W->E (G { (eK f).at a todo with mode:=.returning} cs) W:=by
 intro Ds
 induction Ds with
 | nil=>
  intro a W hR _ _ hm;obtain⟨v,h1,v',H',Vv,h2,h3,h4,h5⟩:=Bv (fn:=fn) rfl hR hk;exact hc v W _ ⟨v',H',Vv,ρ,h2,⟨h3.hb,h3.dom,h3.domv,h3.domk,hm.le,hm.old,hm.zold,hm.keep⟩,h4,h5⟩ rfl ⟨rfl,hR.base.df,rfl,fn,hf,h1⟩
 | cons D Ds ih=>
  intro a W hR hnd ZJ hm;refine Fc hE (hR.base.df:a.defers=_) (ZJ D (Um ..)).1 λW1 r1=>?_;have hD1:=r1.heap _ _ (ZJ D (Um ..)).1;have WO:=(ZJ D (Um ..)).2;have t:=lx (.deferred none) hD1 rfl rfl;have hm1:=(hm.gr (cQ r1)).iZ t WO;have hnd':=List.nodup_cons.1 hnd;refine ih ⟨a.tmps,Ds.map lJ⟩ _ ⟨⟨⟨hm1.hb,hm1.dom,hm1.domv,hm1.domk,?_,?_,?_,?_⟩,λn sb hn=>((hR.base.Vg.gr (cQ r1)).blk n sb hn).iZ t,hR.base.sz,rfl⟩,hR.rgs,hR.cA⟩ hnd'.2 (λD' Yj=>?_) hm1;have q:=((hR.later r1).iZ t WO).base.mem.le;exact⟨q.n,q.v,q.k,q.z⟩;exact((hR.later r1).iZ t WO).base.mem.old;exact((hR.later r1).iZ t WO).base.mem.zold;have q:=((hR.later r1).iZ t WO).base.mem.keep;exact⟨q.os,q.tape,q.output,q.size,q.block⟩;have UR:D'≠D:=λe=>hnd'.1 (e▸Yj);refine⟨?_,(ZJ D' (Ux _ Yj)).2⟩;rw[World.putObj_heap_other UR];exact r1.heap _ _ (ZJ D' (Ux _ Yj)).1
theorem zP{f:FuncId}{fn:Func}(hE:Closed C.P C.co E)(hf:C.P.funcs[f]? = some fn){K:SV->aY->Nat->Prop}{st:St}{ρ:Names}(hk:qC C fn.results.toList st (λv=>K v st.H st.nm))
  (hc:∀v W' fr,(∃v' H' Vv UL,K v' H' Vv∧Mem C w0 UM Vv UL W'∧(∀n sb,look H' n=some sb->cS UL W' n sb)∧den UL v' v)->fr.fn=f->fr.leaving C.P W' (.returned v)->E (G fr cs) W') (todo:List Item) {Ds:List Nat} {a:Act} {W:World} (hnoO:∀b,¬UM.o b) (A:AtR C nt w0 UM nm0 Ds st ρ a W):E (G { (eK f).at a todo with mode:=.returning} cs) W:=by
 obtain⟨U1,X9,ZJ⟩:=A.all;obtain⟨w1,Vq,m1,mk,hR⟩:=A.ex;have WG:∀b,iX UM b->iX (UM.dd (Ds.map lJ)) b:=λb hm=>by rcases hm with h|h;exact .inl h;exact Up h (hnoO b)
 have hmine':∀b,iX (UM.dd (Ds.map lJ)) b->iX UM b:=λb hm=>by rcases hm with h|h;exact .inl h;exact h.elim
 refine NK hE hf hk hc todo Ds a W ⟨⟨⟨U1.hb,U1.dom,U1.domv,U1.domk,⟨U1.le.n,U1.le.v,U1.le.k,U1.le.z⟩,λn b ho=>(U1.old n b ho).imp (WG b) id,λb i c hz=>(U1.zold b i c hz).imp id (Or.imp id (WG b)),U1.keep.os,U1.keep.tape,U1.keep.output,U1.keep.size,λb hb hn=>U1.keep.block b hb λhm=>hn (WG b hm)⟩,hR.base.blk,hR.base.sz,X9⟩,hR.rgs,hR.cA⟩ A.nd (λD hD=>⟨(ZJ D hD).1,(ZJ D hD).2.2⟩) U1
end
section
variable {P:Program}{co:Bool}{E:Goroutine->World->Prop}{b:Frame}{a:Act}{k:List Item}{cs:List Frame}{W:World}
theorem Ie(l:Nat)(args:Array Value):NS P (Instr.yield l args):=by unfold Instr.yield;refine aa (kI l) λr=>?_;exact bj (aa trivial λ_=>trivial) trivial
theorem ua(l:Nat):NS P (Instr.beginRound l):=by unfold Instr.beginRound;refine aa (kI l) λr=>aa (kH _ _) λ_=>?_;split;trivial;exact bc _;exact bc _;exact bc _
theorem yi(l:Nat)(j:Option Code):NS P (Instr.endRound l j):=by unfold Instr.endRound;exact aa (kI l) λr=>aa (kH _ _) λ_=>trivial
def Kr(P:Program)(co:Bool)(l:Nat)(args:Array Value)(W:World)(R:Value->World->Prop):Prop:=
 ∀W1,Rv W W1->∃fn tmps VB body,(Instr.yield l args).run P W1=.ok (.round l fn tmps VB body) W1∧jB P co l fn tmps VB body W1 R
def rfr(f:FuncId)(l:Nat):Frame:={ (default:Frame) with fn:=f,kind:=.normal,roundOf:=some l}
theorem Hu{l:Nat}{fn:FuncId}{tmps:Array Value}{VB body:Code}{R:Value->World->Prop}{Mid:Act->World->Prop}(hA:wpR P co VB (λe a W=>e=.normal∧Mid a W) ⟨tmps,[]⟩ W)
  (hM:∀a W,Mid a W->∀W1,Rv W W1->∃W2,(Instr.beginRound l).run P W1=.ok () W2∧wpR P co body (λe _ W3=>e=.normal∧∀W4,Rv W3 W4->∃v W5,(Instr.endRound l none).run P W4=.ok v W5∧R v W5) a W2):jB P co l fn tmps VB body W R:=by
 intro E hE c cs hc;have e0:Frame.round l fn tmps VB body .normal=(rfr fn l).atR ⟨tmps,[]⟩ [.code VB,.beginRound,.code body]:=rfl;rw[e0];have hk:(rfr fn l).kind≠.early:=by simp[rfr]
 refine hA E hE (rfr fn l) [.beginRound,.code body] (c::cs) hk λe a' W' ⟨he,hm⟩=>?_;subst he;refine⟨trivial,?_⟩;show E (G ((rfr fn l).atR a' [.beginRound,.code body]) (c::cs)) W';refine hE.step rfl λW1 r1=>?_;obtain⟨W2,h1,h2⟩:=hM _ _ hm W1 r1;refine⟨G ((rfr fn l).atR a' [.code body]) (c::cs),W2,λmain S R' w hv=>?_,h2 E hE (rfr fn l) [] (c::cs) hk λe a3 W3 ⟨he,h3⟩=>?_⟩
 ·obtain⟨sm,Zs⟩:∃sm:Sem Next,sm=(do Instr.beginRound l;pure Next.skip):=⟨_,rfl⟩
  have hns:NS P sm:=(by rw[Zs];exact aa (ua l) λ_=>trivial);have UU:sm.run P W1=.ok .skip W2:=(by rw[Zs];simp[UJ,h1,Result.andThen]);obtain⟨u',k1,k2,kk,k3⟩:=b7 #[] hns hv UU;refine⟨u',seen P fn (sm.events P w #[]),?_,k2,kk,λe he=>lH (P:=P) k3 he⟩;have U4:stepG P main (G ((rfr fn l).atR a' [.beginRound,.code body]) (c::cs)) w=stepG.apply P true ((rfr fn l).atR a' [.beginRound,.code body]) (c::cs) none sm w:=(by rw[Zs];rfl);rw[U4];simp[G,stepG.apply,Frame.atR,rfr,k1,GStep.after,Frame.finish]
 subst he;refine⟨trivial,?_⟩;show E (G ((rfr fn l).atR a3 []) (c::cs)) W3;refine hE.step rfl λW4 r4=>?_;obtain⟨v,W5,h5,h6⟩:=h3 W4 r4;refine⟨G (c.finish v) cs,W5,λmain S R' w hv=>?_,hc v W5 h6⟩;obtain⟨u',k1,k2,kk,k3⟩:=b7 #[] (yi l none) hv h5;refine⟨u',seen P fn ((Instr.endRound l none).events P w #[]),?_,k2,kk,λe he=>lH (P:=P) k3 he⟩;simp[G,stepG,stepG.exec,Frame.atR,rfr,k1,GStep.after,doReturn]
def oa(fn:FuncId)(tmps:Array Value)(ps:Array Tmp)(VB body:Code)(D:Nat)(s:LoopState):Loop:={state:=s,pending:=none,fn,tmps,params:=ps,assign:=VB,body,defers:=D}
theorem MI(hE:Closed P co E)(hk:b.kind≠.early)(VX:b.roundOf=none){g:Operand}{ps:Array Tmp}{VB body:Code}{gf:Nat}{lb:Array Value}(hg:a.eval g=.func (.func gf) #[] lb)(eg:∀args w,(callFunc gf args).run P w=.ok (.enter gf args) w)(ns:∀args,NS P (callFunc gf args)){X:Nat->Nat->World->World->Prop}
  (hit:∀D l W2,Gr W W2->W.heap.size<=D->D<l->l<W2.heap.size->W2.heap[D]? = some (.deferred (some []))->W2.heap[l]? = some (.loop (oa b.fn a.tmps ps VB body D .ready))->br P co gf (#[.func (.yield l) #[] #[]]++lb) W2 λe W'=>(∃v,e=.returned v)∧W'.heap[D]? = W2.heap[D]?∧W'.heap[l]? = W2.heap[l]?∧X D l W2 W')
  (hK:∀D l W2 W3 W4 o,Gr W W2->W.heap.size<=D->D<l->l<W2.heap.size->X D l W2 W3->Rv W3 W4->W4.heap[D]? = some (.deferred (some []))->W4.heap[l]? = some (.loop o)->E (G (b.at ⟨a.tmps,{target:=.collected D,args:=#[]}::a.defers⟩ k) cs) (W4.putObj l (.loop {o with state:=.exhausted}))) :
  E (G (b.at a (.code (.rangeFunc g ps VB body)::k)) cs) W:=by
 refine hE.step rfl λW1 r1=>?_;obtain⟨rec,VW⟩:∃rec:LoopState->Loop,rec=λs=>{state:=s,pending:=none,fn:=b.fn,tmps:=a.tmps,params:=ps,assign:=VB,body,defers:=W1.heap.size}:=⟨_,rfl⟩
 obtain⟨W2,hW2⟩:∃W2,(W1.alloc (.deferred (some []))).alloc (.loop (rec .ready))=W2:=⟨_,rfl⟩
 have hg12:Gr W1 W2:=by rw[<-hW2];exact((Gr.refl W1).alloc _).alloc _
 have hL2:W2.heap[W1.heap.size+1]? = some (.loop (rec .ready)):=by rw[<-hW2];have:=World.alloc_heap_new (W1.alloc (.deferred (some []))) (.loop (rec .ready));rwa [World.size_alloc] at this
 have hD2:W2.heap[W1.heap.size]? = some (.deferred (some [])):=by rw[<-hW2];exact(Below.heap_alloc _ _ _ (by simp)).trans (World.alloc_heap_new W1 _)
 have UY:W1.heap.size+1<W2.heap.size:=(E'.1 hL2).1;have e1:(Instr.enterLoop b.fn a.tmps ps VB body none).run P W1=.ok (W1.heap.size+1,[{target:=.collected W1.heap.size,args:=#[]}]) W2:=by rw[<-hW2,VW];exact run_enterLoop_outer _ _ _ _ _
 have YM:=r1.size;have g02:Gr W W2:=(cQ r1).trans hg12;let a':Act:=⟨a.tmps,{target:=.collected W1.heap.size,args:=#[]}::a.defers⟩
 refine⟨G (Frame.enter P gf (#[.func (.yield (W1.heap.size+1)) #[] #[]]++lb) .normal) (b.at a' (.inRangeFunc (W1.heap.size+1)::k)::cs),W2,λmain S R w hv=>?_,?_⟩;obtain⟨u,k1,k2,kk,k3⟩:=b7 #[] (oh _ _ _ _ _) hv e1;obtain⟨u2,k4,k5,kk2,k6⟩:=b7 #[] (ns (#[.func (.yield (W1.heap.size+1)) #[] #[]]++lb)) k2 (eg _ W2);have WJ:(b.kind==CallKind.early)=false:=(by simpa using hk);refine⟨u2,seen P b.fn ((Instr.enterLoop b.fn a.tmps ps VB body none).events P w #[])++seen P b.fn ((callFunc gf (#[.func (.yield (W1.heap.size+1)) #[] #[]]++lb)).events P u #[]),?_,k5,kk.trans kk2,λe he=>?_⟩;have YY:∀(f:Frame),f.tmps=a.tmps->(do let d <-resolve f.eval {callee:=.value g,args:=#[.const (.func (.yield (W1.heap.size+1)) #[] #[])],argTypes:=#[]} 0;invoke d.target d.args)=callFunc gf (#[.func (.yield (W1.heap.size+1)) #[] #[]]++lb):=λf hf=>(by have XI:f.eval g=.func (.func gf) #[] lb:=(by rw[<-hg];cases g<;>simp[Frame.eval,Act.eval,hf]);have hc:∀v,f.eval (.const v)=v:=λ_=>rfl;simp only[resolve,XI,Deferred.ofValue,List.map_toArray,List.map_cons,List.map_nil,hc];simp[invoke]);have happ:∀(fr:Frame) (s:Sem Next),fr.fn=b.fn->fr.kind=b.kind->fr.todo=.inRangeFunc (W1.heap.size+1)::k->s=callFunc gf (#[.func (.yield (W1.heap.size+1)) #[] #[]]++lb)->stepG.apply P true fr cs none s u=.go {frame:=Frame.enter P gf (#[.func (.yield (W1.heap.size+1)) #[] #[]]++lb) .normal,callers:=fr::cs,status:=.running,dying:=none} u2 (seen P b.fn ((callFunc gf (#[.func (.yield (W1.heap.size+1)) #[] #[]]++lb)).events P u #[])):=λfr s f1 f2 f3 f4=>(by subst f4;simp[stepG.apply,k4,f1,f2,f3,WJ,GStep.after]);simp only[G,stepG,stepG.exec,Frame.at,VX];simp[k1];have hx:=happ {fn:=b.fn,tmps:=a.tmps,todo:=.inRangeFunc (W1.heap.size+1)::k,defers:={target:=.collected W1.heap.size,args:=#[]}::a.defers,mode:=.run,kind:=b.kind} _ rfl rfl rfl (YY {fn:=b.fn,tmps:=a.tmps,todo:=.inRangeFunc (W1.heap.size+1)::k,defers:={target:=.collected W1.heap.size,args:=#[]}::a.defers,mode:=.run,kind:=b.kind} rfl);refine(Uo (GStep.after _) hx).trans ?_;simp[GStep.after,a'];rcases Array.mem_append.1 he with he|he;exact Jj (lH (P:=P) k3 he) kk2.size;exact lH (P:=P) k6 he;refine hit W1.heap.size (W1.heap.size+1) W2 g02 YM (by omega) UY hD2 (by rw[hL2,VW];rfl) E hE _ λe W3 fr hR Z5 hl=>?_;obtain⟨⟨v,rfl⟩,hD,hL,hX⟩:=hR;obtain⟨l1,l2,l3,fn,l4,l5⟩:=hl;have hL3:=hL.trans hL2;have hD3:=hD.trans hD2;refine hE.step rfl λW4 r4=>⟨G (b.at a' (.endRangeFunc (W1.heap.size+1)::k)) cs,W4,λmain S R w hv=>?_,?_⟩
 have e1:=oq r4 hv (cY fn fr.tmps) l5;obtain⟨u,k1,k2,kk,k3⟩:=b7 #[] (cY fn fr.tmps).ns hv e1;refine⟨u,seen P fr.fn ((results fn fr.tmps).events P w #[]),?_,k2,kk,λe he=>lH (P:=P) k3 he⟩;obtain⟨ffn,ZR,ZQ,XU,ZS,ZT,YD⟩:=fr;simp only at l1 l2 l3 l4 k1;subst l1 l2 l3;simp[G,stepG,unwind,doReturn,l4,k1,GStep.after,Frame.finish,Frame.at];refine hE.step rfl λW5 r5=>⟨G (b.at a' k) cs,W5.putObj (W1.heap.size+1) (.loop {rec .ready with state:=.exhausted}),λmain S R w hv=>?_,?_⟩
 ·have hL5:=(r5.heap _ _ (r4.heap _ _ hL3))
  have e5:=run_endLoop (P:=P) hL5 (by rw[VW];simp);have hp:(rec .ready).pending=none:=(by rw[VW]);obtain⟨u,k1,k2,kk,k3⟩:=b7 #[] (sd (W1.heap.size+1)) hv e5;refine⟨u,seen P b.fn ((Instr.endLoop (W1.heap.size+1)).events P w #[]),?_,k2,kk,λe he=>lH (P:=P) k3 he⟩;simp[G,stepG,stepG.exec,Frame.at,k1,hp,GStep.after,a']
 exact hK _ _ W2 W3 W5 _ g02 YM (by omega) UY hX (r4.trans r5) (r5.heap _ _ (r4.heap _ _ hD3)) (r5.heap _ _ (r4.heap _ _ hL3))
end
end Go.Proofs.YtgigkennhdolpaaGreatDoor
