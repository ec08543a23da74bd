/- Company, 54: functions with ranges over. -/
import Derived.Test.YtmdpdknpapjchaaGreatDoorM23
import Derived.Lib.Overlaps
set_option linter.all false
namespace Go.Proofs.YtmdpdknpapjchaaGreatDoor
section
open Go.Conc Go.RowKit
variable {a:Act}{x y':Code}{fn:Func}{f:FuncId}{q:LV}{Ds:List Nat}{args:List SV}{XN ρ:Names}{b d n nm nm0 nt r:Nat}{P PP:Program}{st:St}{ty:TypeId}{v:Value}{w w0:World}{H:aU}{C:Cx PP}
structure rW (W W':World) (r:Nat):Prop where
 os:W'.os=W.os
 tape:W'.tape=W.tape
 output:W'.output=W.output
 size:W'.heap.size=W.heap.size
 block:∀b,b≠r->W'.heap[b]? = W.heap[b]?
 obj:∃o,W.heap[r]? = some o∧o.isCells=false∧o.isWalk=false
theorem mg{W:World}{o:Obj}(o':Obj)(h:W.heap[r]? = some o)(h1:o.isCells=false)(h2:o.isWalk=false):rW W (W.putObj r o') r:=
 ⟨rfl,rfl,rfl,World.putObj_size,λ_ hb=>World.putObj_heap_other hb,o,h,h1,h2⟩
section
variable {W W':World}
theorem rW.cell(t:rW W W' r){b i:Nat}{c:Value}(h:W.cell? ⟨b,i,none⟩=some c):W'.cell? ⟨b,i,none⟩=some c:=by
 have hb:b≠r:=by rintro rfl;obtain⟨o,h1,h2,-⟩:=t.obj;unfold World.cell? at h;simp only[h1] at h;cases o<;>simp_all [Obj.isCells]
 exact(cell_of_heap (t.block b hb)).trans h
theorem rW.blk(t:rW W W' r){u:Array Value}(h:Zq W b u ty):Zq W' b u ty:=by
 have h':W.heap[b]? = some (.cells u ty (0,0)):=h;have hb:b≠r:=by rintro rfl;obtain⟨o,h1,h2,-⟩:=t.obj;rw[h'] at h1;obtain rfl:=Oi h1;cases h2
 exact(t.block b hb).trans h'
theorem rW.map(t:rW W W' r){es:Array MapEntry}{cl:Nat}(h:W.heap[b]? = some (.map es cl)):W'.heap[b]? = some (.map es cl):=by
 have hb:b≠r:=by rintro rfl;obtain⟨o,h1,-,h2⟩:=t.obj;rw[h] at h1;obtain rfl:=Oi h1;cases h2
 exact(t.block b hb).trans h
theorem HB.jJ(h:HB C ρ W)(t:rW W W' r):HB C ρ W':=
 ⟨h.own,λn b hb=>⟨(h.low n b hb).1,by rw[t.size];exact(h.low n b hb).2⟩,λb i c hz=>⟨t.cell (h.zok b i c hz).1,(h.zok b i c hz).2⟩,
  by rw[t.size];exact h.grd.1,λb sb hb=>let ⟨h0,vs,h1,h2⟩:=h.grd.2 b sb hb;⟨h0,vs,h1,λi v hv=>t.cell (h2 i v hv)⟩⟩
theorem fF.jJ{sz:Nat}{f:Nat->List SV}(h:fF ρ W q sz f ty)(t:rW W W' r):fF ρ W' q sz f ty:=
 ⟨h.1,λhc=>let ⟨b,u,k1,k2,k3⟩:=h.2 hc;⟨b,u,k1,t.blk k2,k3⟩⟩
theorem cS.jJ{n:Nat}{sb:SB}(h:cS ρ W n sb)(t:rW W W' r):cS ρ W' n sb:=by
 cases sb with
 | gone=>trivial
 | lay cs ty=>obtain⟨b,vs,h1,h2,h3,h4⟩:=h;exact⟨b,vs,h1,h2,t.blk h3,h4⟩
 | lst e sz N f ty=>
  obtain⟨l,h1,h2,h3,h4,h5⟩:=h;exact⟨l,h1,h2,h3,h4,λhc=>let ⟨b,u,k1,k2,k3⟩:=h5 hc;⟨b,u,k1,t.blk k2,k3⟩⟩
 | mp k ag has g=>obtain⟨b,es,cl,h1,h2,h3⟩:=h;exact⟨b,es,cl,h1,t.map h2,h3⟩
 | nst e sz N f p Yf g tk ty last=>
  obtain⟨l,K⟩:=h;exact⟨l,K.hv,K.ho,K.hN,K.hle,λhc=>let ⟨b,u,k1,k2,k3⟩:=K.row hc;⟨b,u,k1,t.blk k2,k3⟩,λi hi=>let ⟨q,q1,q2,q3⟩:=K.kid i hi;⟨q,q1,q2,q3.jJ t⟩,K.no,K.ne⟩
theorem Mem.jJ(h:Mem C w0 XN nm ρ W)(t:rW W W' r)(hr:w0.heap.size<=r):Mem C w0 XN nm ρ W':=
 ⟨h.hb.jJ t,h.dom,h.domv,h.domk,h.le,h.old,h.zold,t.os.trans h.keep.os,t.tape.trans h.keep.tape,t.output.trans h.keep.output,by rw[t.size];exact h.keep.size,λb hb hn=>(t.block b (by omega)).trans (h.keep.block b hb hn)⟩
theorem Rp.jJ{st:St}{a:Act}(h:Rp C nt w0 XN st ρ a W)(t:rW W W' r)(hr:w0.heap.size<=r):Rp C nt w0 XN st ρ a W':=
 ⟨⟨h.base.mem.jJ t hr,λn sb hn=>(h.base.blk n sb hn).jJ t,h.base.sz,h.base.df⟩,h.rgs,h.cw⟩
end
def mz(D:Nat):Deferred:={target:=.collected D,args:=#[]}
def Names.dd(ρ:Names)(ds:List Deferred):Names:=⟨ρ.n,ρ.v,ρ.k,ρ.z,ds,λ_=>False⟩
section
variable {Γ:List (XR C)}{I:Inl}{inls:List Nat}{h:How}{E:Goroutine->World->Prop}{b:Frame}{cs:List Frame}{k:List Item}
theorem Mem.dd{w1 W:World}{Yj:Names}{ds:List Deferred}(h:Mem C w1 (Yj.dd ds) nm ρ W):Mem C w1 Yj.YE nm ρ W:=
 ⟨h.hb,h.dom,h.domv,h.domk,⟨h.le.n,h.le.v,h.le.k,h.le.z⟩,h.old,h.zold,h.keep.os,h.keep.tape,h.keep.output,h.keep.size,h.keep.block⟩
structure AtR (C:Cx PP) (nt:Nat) (w0:World) (XN:Names) (nm0:Nat) (Ds:List Nat) (st:St) (ρ:Names) (a:Act) (W:World):Prop where
 ex:∃w1 Yj,Mem C w0 XN nm0 Yj w1∧(∀D∈Ds,w1.heap[D]? = some (.deferred (some []))∧(∀n,¬bM Yj n D)∧w0.heap.size<=D)∧Rp C nt w1 (Yj.dd (Ds.map mz)) st ρ a W
 nd:Ds.Nodup
theorem ew(hE:Closed C.P C.co E)(hI:eT C I)(hm:C.P.follows .mixedOrders=true)(hb:b.kind≠.early)(hr:b.roundOf=none){K:Ex->St->Prop}(hB:dL h.fl x=true){W:World}(A:AtR C nt w0 XN nm0 Ds st ρ a W)(he:ev Γ nt nm0 I inls h x st K)(next:∀e X4 XM a' W',K e X4->AtR C nt w0 XN nm0 Ds X4 XM a' W'->OA (Ex.to e)∧Ue E b k cs (Ex.to e) a' W'):E (G (b.at a (.code x::k)) cs) W:=by
 obtain⟨w1,Yj,m1,mk,hR⟩:=A.ex;refine(AV (XN:=Yj.dd (Ds.map mz)) hI hm m1.dom m1.domv m1.domk x st _ hB he ρ a W hR) E hE b k cs hb hr λe a' W' ⟨x',X4,XM,he',hK',hR'⟩=>?_;subst he';exact next x' X4 XM a' W' hK' ⟨⟨w1,Yj,m1,mk,hR'⟩,A.nd⟩
theorem dh(hE:Closed C.P C.co E)(hI:eT C I)(hm:C.P.follows .mixedOrders=true)(hb:b.kind≠.early)(hr:b.roundOf=none){c y:Code}(hc:c=.seq x y'){K:Ex->St->Prop}(hcut:cutAt h.cuts y=false)(hB:dL h.fl x=true){W:World}(A:AtR C nt w0 XN nm0 Ds st ρ a W)(he:ev Γ nt nm0 I inls h (.seq x y) st K)(hK:∀e st,K e st->e=.normal)(next:∀X4 XM a' W',ev Γ nt nm0 I inls h y X4 K->AtR C nt w0 XN nm0 Ds X4 XM a' W'->E (G (b.at a' (.code y'::k)) cs) W'):E (G (b.at a (.code c::k)) cs) W:=by
 subst hc;refine gL hE ?_;simp only[ev,hcut] at he;refine ew hE hI hm hb hr hB A he λe X4 XM a' W' hk A'=>?_;cases e with
 | normal=>exact⟨trivial,next X4 XM a' W' hk A'⟩
 | exit i=>exact P' (hK _ _ hk) (by simp)
 | ret=>exact P' (hK _ _ hk) (by simp)
theorem lR(hE:Closed C.P C.co E)(hI:eT C I)(hm:C.P.follows .mixedOrders=true)(hb:b.kind≠.early)(hr:b.roundOf=none){c:Code}(hc:c=.seq x y'){ct:Cut}(hB:dL h.fl x=true){W:World}(A:AtR C nt w0 XN nm0 Ds st ρ a W)(he:ev Γ nt nm0 I inls h x st (λe X4=>e=.normal∧ct.at_ nm0 X4 λ_=>True))(next:∀u XM a' W',ct.P u->AtR C nt w0 XN nm0 Ds (ct.J u) XM a' W'->E (G (b.at a' (.code y'::k)) cs) W'):E (G (b.at a (.code c::k)) cs) W:=by
 subst hc;refine gL hE (ew hE hI hm hb hr hB A he λe X4 XM a' W' hk A'=>?_);obtain⟨rfl,hk⟩:=hk;obtain⟨w1,Yj,m1,mk,hR⟩:=A'.ex;obtain⟨u,Y1,-,hp,hR2⟩:=hk.rp (XN:=Yj.dd (Ds.map mz)) m1.dom m1.domv m1.domk hR;exact⟨trivial,next u Y1 a' W' hp ⟨⟨w1,Yj,m1,mk,hR2⟩,A'.nd⟩⟩
theorem xk{vs:List Value}{ze:Nat->Nat->Value->Prop}{W:World}(hn:args.length<=n)(hG:C.ZQ W)(hz:∀b i c,ze b i c->W.cell? ⟨b,i,none⟩=some c∧c.oneCell'=true)(XY:au (aI ze) args vs):AtR C n W (aI ze).YE 0 [] ⟨bw 0 args,[],0,0,[],[]⟩ (aI ze) {tmps:=vs.toArray++Array.replicate (n-vs.toArray.size) undef,defers:=[]} W:=by have hH:=gb hG hz;exact⟨⟨W,aI ze,Mem.refl hH.hb (λn b h=>by cases h) (λe l h=>by cases h) (λm i l h=>by cases h),⟨λD hD=>P' hD List.not_mem_nil,zE hn hG hz XY⟩⟩,List.nodup_nil⟩
theorem AtR.all{W:World}(A:AtR C nt w0 XN nm0 Ds st ρ a W):Mem C w0 XN st.nm ρ W∧a.defers=Ds.map mz∧∀D∈Ds,W.heap[D]? = some (.deferred (some []))∧(∀n,¬bM ρ n D)∧w0.heap.size<=D:=by
 obtain⟨w1,Yj,m1,mk,hR⟩:=A.ex;refine⟨m1.trans hR.base.mem.dd,hR.base.df,λD hD=>?_⟩;obtain⟨h1,h2,h3⟩:=mk D hD;have hl:D<w1.heap.size:=(E'.1 h1).1;have hn:¬jb (Yj.dd (Ds.map mz)) D:=λhm=>by
  rcases hm with ⟨n,hn⟩|hn
  exact h2 n hn;exact hn
 refine⟨(hR.base.mem.keep.block D hl hn).trans h1,λn ho=>?_,h3⟩;rcases hR.base.mem.old n D ho with h|h;exact hn h;omega
def cC(H H':aU):Prop:=∀n sb,look H n=some sb->look H' n=some sb
theorem cC.refl(H:aU):cC H H:=λ_ _ h=>h
theorem cC.cons{H':aU}{k:Nat}{x:SB}(h:cC H H')(hk:look H k=none):cC H ((k,x)::H'):=λn sb hn=>by rw[ah _ _ (λe=>by subst e;rw[hk] at hn;cases hn)];exact h n sb hn
theorem vh{Fs:List (Y0 C)}{m:Nat}(hE:Closed C.P C.co E)(hm:C.P.follows .mixedOrders=true)(hb:b.kind≠.early)(hr:b.roundOf=none){g:Operand}{ps:Array Tmp}{YI body code:Code}{cap:List SV}{W:World}(A:AtR C nt w0 XN nm0 Ds st ρ a W)(F:Y0 C)(hg:rl st.sl g=some (.f (.func F.f) [] cap))(hbd:F.fn.body=some code)(hnt:Nat.ble (cap.length+1) F.fn.ntmps=true)(hw:∀l,ev Γ F.fn.ntmps st.nm (jB Γ Fs d) (cd Fs) ⟨F.fl,F.cuts,F.invs,F.fu⟩ code ⟨bw 0 (.v (.func (.yield l) #[] #[])::cap),st.H,st.nm,0,[],[]⟩ (rT C F.fn.results.toList λ_ H' Yl=>cC st.H H'∧Nat.ble Yl m=true))(hK:∀D XM a' W',AtR C nt w0 XN m (D::Ds) ⟨st.sl,st.H,m,st.rg,[],[]⟩ XM a' W'->E (G (b.at a' k) cs) W'):E (G (b.at a (.code (.rangeFunc g ps YI body)::k)) cs) W:=by
 obtain⟨X8,hdf,hmk⟩:=A.all;obtain⟨w1,Yj,m1,mk,hR⟩:=A.ex;obtain⟨u,lb,hu,Ym,hga⟩:=gF hR hg;obtain rfl:=bX hu;have YY:∀D,W.heap.size<=D->∀n,¬bM ρ n D:=λD hD n ho=>by have:=(X8.hb.low n D ho).2;omega
 refine LI (X:=λ_ _ W2 W'=>∃XM,Mem C W2 ρ.YE m XM W'∧∀n sb,look st.H n=some sb->cS XM W' n sb) hE hb hr hga F.en (λargs=>de F.hf F.hB args) (λD l W2 g2 hD hDl hl=>?_) λD l W2 W3 W4 o g2 hD hDl hl hX r4 hD4 hl4=>?_
 ·have hB:dL F.fl code=true:=(by have:=F.hB;unfold gq at this;rw[hbd] at this;exact this);have hHok:YH C st.H ρ W2:=hR.base.X'.gr g2;have Zk:au ρ (.v (.func (.yield l) #[] #[])::cap) (.func (.yield l) #[] #[]::lb):=aN rfl Ym;have:=gM (w0:=W2) (args:=.v (.func (.yield l) #[] #[])::cap) ⟨F.fl,F.cuts,F.invs,F.fu⟩ (cX hm d) hm F.hf hbd hnt hB hHok X8.dom X8.domv X8.domk Zk _ (hw l);rw[show #[Value.func (.yield l) #[] #[]]++lb.toArray=(Value.func (.yield l) #[] #[]::lb).toArray by simp];refine this.mono ?_;rintro e W' ⟨v,val,H',Yl,XM,rfl,⟨hle,hnm⟩,h1,h2,-⟩;have h1:=h1.up (F4 hnm);have h2:∀n sb,look st.H n=some sb->cS XM W' n sb:=λn sb h=>h2 n sb (hle n sb h);have hk:∀D,W.heap.size<=D->D<W2.heap.size->W'.heap[D]? = W2.heap[D]?:=λD h3 h4=>h1.keep.block D h4 λhm=>by
   rcases hm with ⟨n,hn⟩|hn
   exact YY D h3 n hn;exact hn
  exact⟨⟨_,rfl⟩,hk D hD (by omega),hk l (by omega) hl,XM,h1,h2⟩
 obtain⟨XM,h1,h2⟩:=hX;have t:=mg (.loop {o with state:=.exhausted}) hl4 rfl rfl;have hs:=X8.keep.size;have hmem3:Mem C w0 XN m XM W4:=((X8.gr g2).trans h1).gr (db r4);have ZF:=hmem3.jJ t (by omega);have hok4:YH C st.H XM W4:=YH.gr ⟨h1.hb,h2⟩ (db r4);have hno3:∀D,D<W2.heap.size->(∀n,¬bM ρ n D)->(∀n,¬bM XM n D)∧W3.heap[D]? = W2.heap[D]?:=λD hD hn=>by
  have hm:¬jb ρ.YE D:=λhm=>by
   rcases hm with ⟨n,ho⟩|ho
   exact hn n ho;exact ho
  refine⟨λn ho=>?_,h1.keep.block D hD hm⟩;rcases h1.old n D ho with h|h;exact hm h;omega
 refine hK D XM _ _ ⟨⟨_,XM,ZF,λD' hD'=>?_,⟨⟨⟨ZF.hb,ZF.dom,ZF.domv,ZF.domk,⟨λ_ _ h=>h,λ_ _ h=>h,λ_ _ _ h=>h,λ_ _ _ h=>h⟩,λn _ ho=>.inl (.inl ⟨n,ho⟩),λ_ _ _ hz=>.inl hz,.refl _ _⟩,λn sb hn=>(hok4.blk n sb hn).jJ t,hR.base.sz,?_⟩,hR.rgs,λt s hs hg=>?_⟩⟩,?_⟩;rcases Xq.1 hD' with rfl|hD';refine⟨?_,(hno3 D' (by omega) (YY D' hD)).1,by omega⟩;rw[World.putObj_heap_other (by omega)];exact hD4;obtain⟨q1,q2,q3⟩:=hmk D' hD';have X0:D'<W.heap.size:=(E'.1 q1).1;have hlt2:D'<W2.heap.size:=(by have:=g2.size;omega);obtain⟨q4,q5⟩:=hno3 D' hlt2 q2;refine⟨?_,q4,q3⟩;rw[World.putObj_heap_other (by omega)];exact r4.heap _ _ (q5.trans ((g2.block D' X0).trans q1));show {target:=.collected D,args:=#[]}::a.defers=_;rw[hdf];rfl;obtain⟨x,k1,k2⟩:=hR.cw t s hs hg;exact⟨x,bE (ρ:=ρ) ⟨h1.le.n,h1.le.v,h1.le.k,h1.le.z⟩ _ _ k1,k2⟩;refine List.nodup_cons.2 ⟨λhD'=>?_,A.nd⟩;have:=(E'.1 (hmk D hD').1).1;omega
theorem Qx(hE:Closed C.P C.co E)(hf:C.P.funcs[f]? = some fn){K:SV->aU->Nat->Prop}(hk:qy C fn.results.toList st (λv=>K v st.H st.nm))(hc:∀v W' fr,(∃v' H' Yl XM,K v' H' Yl∧Mem C w0 XN Yl XM W'∧(∀n sb,look H' n=some sb->cS XM W' n sb)∧den XM v' v)->fr.fn=f->fr.leaving C.P W' (.returned v)->E (G fr cs) W')(todo:List Item) :
  ∀(Ds:List Nat) (a:Act) (W:World),Rp C nt w0 (XN.dd (Ds.map mz)) st ρ a W->Ds.Nodup->(∀D∈Ds,W.heap[D]? = some (.deferred (some []))∧w0.heap.size<=D)->Mem C w0 XN st.nm ρ W->E (G { (c7 f).at a todo with mode:=.returning} cs) W:=by
 intro Ds
 induction Ds with
 | nil=>
  intro a W hR _ _ hm;obtain⟨v,h1,v',H',Yl,h2,h3,h4,h5⟩:=Dg (fn:=fn) rfl hR hk;exact hc v W _ ⟨v',H',Yl,ρ,h2,⟨h3.hb,h3.dom,h3.domv,h3.domk,hm.le,hm.old,hm.zold,hm.keep⟩,h4,h5⟩ rfl ⟨rfl,hR.base.df,rfl,fn,hf,h1⟩
 | cons D Ds ih=>
  intro a W hR hnd hmk hm;refine Hv hE (hR.base.df:a.defers=_) (hmk D (J' ..)).1 λW1 r1=>?_;have hD1:=r1.heap _ _ (hmk D (J' ..)).1;have ZM:=(hmk D (J' ..)).2;have t:=mg (.deferred none) hD1 rfl rfl;have hm1:=(hm.gr (db r1)).jJ t ZM;have hnd':=List.nodup_cons.1 hnd;refine ih ⟨a.tmps,Ds.map mz⟩ _ ⟨⟨⟨hm1.hb,hm1.dom,hm1.domv,hm1.domk,?_,?_,?_,?_⟩,λn sb hn=>((hR.base.X'.gr (db r1)).blk n sb hn).jJ t,hR.base.sz,rfl⟩,hR.rgs,hR.cw⟩ hnd'.2 (λD' hD'=>?_) hm1;have q:=((hR.later r1).jJ t ZM).base.mem.le;exact⟨q.n,q.v,q.k,q.z⟩;exact((hR.later r1).jJ t ZM).base.mem.old;exact((hR.later r1).jJ t ZM).base.mem.zold;have q:=((hR.later r1).jJ t ZM).base.mem.keep;exact⟨q.os,q.tape,q.output,q.size,q.block⟩;have XW:D'≠D:=λe=>hnd'.1 (e▸hD');refine⟨?_,(hmk D' (Xm _ hD')).2⟩;rw[World.putObj_heap_other XW];exact r1.heap _ _ (hmk D' (Xm _ hD')).1
theorem pF(hE:Closed C.P C.co E)(hf:C.P.funcs[f]? = some fn){K:SV->aU->Nat->Prop}(hk:qy C fn.results.toList st (λv=>K v st.H st.nm))(hc:∀v W' fr,(∃v' H' Yl XM,K v' H' Yl∧Mem C w0 XN Yl XM W'∧(∀n sb,look H' n=some sb->cS XM W' n sb)∧den XM v' v)->fr.fn=f->fr.leaving C.P W' (.returned v)->E (G fr cs) W')(todo:List Item){W:World}(hnoO:∀b,¬XN.o b)(A:AtR C nt w0 XN nm0 Ds st ρ a W):E (G { (c7 f).at a todo with mode:=.returning} cs) W:=by
 obtain⟨X8,hdf,hmk⟩:=A.all;obtain⟨w1,Yj,m1,mk,hR⟩:=A.ex;have Zg:∀b,jb XN b->jb (XN.dd (Ds.map mz)) b:=λb hm=>by rcases hm with h|h;exact .inl h;exact P' h (hnoO b)
 have hmine':∀b,jb (XN.dd (Ds.map mz)) b->jb XN b:=λb hm=>by rcases hm with h|h;exact .inl h;exact h.elim
 refine Qx hE hf hk hc todo Ds a W ⟨⟨⟨X8.hb,X8.dom,X8.domv,X8.domk,⟨X8.le.n,X8.le.v,X8.le.k,X8.le.z⟩,λn b ho=>(X8.old n b ho).imp (Zg b) id,λb i c hz=>(X8.zold b i c hz).imp id (Or.imp id (Zg b)),X8.keep.os,X8.keep.tape,X8.keep.output,X8.keep.size,λb hb hn=>X8.keep.block b hb λhm=>hn (Zg b hm)⟩,hR.base.blk,hR.base.sz,hdf⟩,hR.rgs,hR.cw⟩ A.nd (λD hD=>⟨(hmk D hD).1,(hmk D hD).2.2⟩) X8
end
theorem CX{fn:FuncId}{o:Oper}(h:(execOp a.eval o).events P w #[]=#[⟨.mark (.extern f),false,true⟩]):listed P fn a o w=#[]:=by unfold listed;rw[h];simp[seen]
section
variable {co:Bool}{E:Goroutine->World->Prop}{b:Frame}{k:List Item}{cs:List Frame}{W:World}{ops:Array Oper}{i:Nat}{rest:List Nat}{o:Oper}
theorem VG(hE:Closed P co E)(hk:b.kind≠.early)(ho:ops[i]? = some o)(hw:Region.wanted o (yielded ops a.tmps)=true)
  (hr:∀W1,Rv W W1->∀(S R:Nat->Prop) (w:World),View S R w W1->(execOp a.eval o).run P w=.ok (.value v) w∧∃f,(execOp a.eval o).events P w #[]=#[⟨.mark (.extern f),false,true⟩])
  (h:E (G (b.at (a.put o.dst v) (.inRegion ops rest::k)) cs) W):E (G (b.at a (.inRegion ops (i::rest)::k)) cs) W:=by
 refine hE.step rfl λW1 r1=>⟨G (b.at (a.put o.dst v) (.inRegion ops rest::k)) cs,W1,λmain S R w hv=>?_,hE.mono h r1⟩
 obtain⟨k1,f,k2⟩:=hr W1 r1 S R w hv;refine⟨w,#[],?_,hv,eG.refl _ _ _,λe he=>by simp at he⟩;rw[stepG_value ho hw hk k1,CX k2]
end
theorem vS{e:Array Value->Sem Value}(hf:P.funcs[f]? = some fn)(hname:(fn.name== "runtime.NumGoroutine")=false)(hb:fn.body.isNone=true)(hn:Extern.findNext fn=none)(he:Extern.find fn=some e)(args:Array Value)(w:World){w':World}{es es':Array Event}(h:(e args).runT P w (es.push ⟨.mark (.extern f),false,true⟩)=(.ok v w',es')):(callFunc f args).events P w es=es':=by
 have h1:fn.name≠ "runtime.NumGoroutine":=by simpa using hname
 have h2:fn.body=none:=by simpa using hb
 rw[Sem.runT_eq] at h;obtain⟨h3,h4⟩:=F7 h;have e1:∀(w:World) (es:Array Event),Sem.events P (Sem.mark (.extern f) (Sem.pure ())) w es=es.push ⟨.mark (.extern f),false,true⟩:=λ_ _=>rfl;simp[callFunc,hf,h1,h2,hn,he,mark,go_sem,e1,h3,h4,Sem.run]
theorem View.mine{S R:Nat->Prop}{W:World}(h:View S R w W){u:Array Value}{t:TypeId}(hb:W.heap[b]? = some (.cells u t (0,0)))(hu:0<u.size):w.heap[b]? = some (.cells u t (0,0)):=by
 have hS:¬S b:=λhs=>by have:=h.pois b hs;rw[hb] at this;injection this with this;injection this with h1 h2 h3;rw[h1] at hu;exact P' hu (by simp)
 have hR:¬R b:=λhr=>by obtain⟨cs,t',fr,hi,h1,h2,h3⟩:=h.lent b hS hr;rw[hb] at h2;injection h2 with h2;injection h2 with q1 q2 q3;injection q3 with q3 q4;rw[q1] at hu;omega
 rw[h.same b hS hR,hb]
theorem rR(w:World)(tS tR e:TypeId)(ht:P.underlying tS=some (.slice e))(size:Nat)(i:TypeInfo)(hi:P.info? e=some i)(a b:Addr)(la ca lb cb:Nat)(XW:a.block≠b.block){ua ub:Array Value}{tA tB:TypeId}(ha:w.heap[a.block]? = some (.cells ua tA (0,0)))(hb:w.heap[b.block]? = some (.cells ub tB (0,0)))(hub:0<ub.size)(es:Array Event) :
  (Extern.SlicesOverlaps.overlaps #[tS,tS] #[tR] #[.slice (some a) la ca,.slice (some b) lb cb]).runT P w es=(.ok (.bool false) w,es):=by
 have hnb:(a.block != b.block)=true:=by simpa using XW
 have hnb':(a.block==b.block)=false:=by simpa using XW
 have hsa:w.shape? a.block=some (tA,ua.size):=by simp[World.shape?,ha]
 have hsb:w.shape? b.block=some (tB,ub.size):=by simp[World.shape?,hb]
 have hfa:∀k sp,w.frozen? ⟨a.block,k,sp⟩=false:=λk sp=>by simp[World.frozen?,ha]
 have hfb:∀k sp,w.frozen? ⟨b.block,k,sp⟩=false:=λk sp=>by simp[World.frozen?,hb]
 have hz:∀w,(Go.sizeOf e).run P w=.ok i.size w:=λw=>by simp[sizeOf,typeInfo,hi]
 have hz2:∀w es,(Go.sizeOf e).events P w es=es:=λw es=>by simp[sizeOf,typeInfo,hi,go_sem]
 have hu2:∀w es,(underlying tS).events P w es=es:=λw es=>by simp[underlying,ht,go_sem]
 have XV:=Lib.run_overlaps_apart (P:=P) w tS tR e ht i.size hz a b la ca lb cb XW tA tB ua.size ub.size hsa hsb (by omega) (hfa _ _) (hfa _ _);rw[Sem.runT_eq,XV];refine O' (Prod.mk _) ?_;change Sem.events P (α:=Value) (do
   let some t:=(#[tS,tS]:Array TypeId)[0]?|stuck "slices.overlaps: no parameter types"
   let .slice elem <-underlying t|stuck "slices.overlaps: slice type expected"
   let size <-sizeOf elem
   match (some a:Option Addr),(some b:Option Addr) with
   | some a,some b=>
    if la=0∨lb=0∨size=0 then pure (Value.bool false)
    else if a.block != b.block&&(<-frozen a)&&(<-frozen b) then unsupported .addressObserved
    else do
     if a.block != b.block then do
      noView a;noView b
      if <-mayBeOne a b then return Value.bool ((<-choose (.extern "sameAddr.stringBytes" 2))==1)
     pure (Value.bool (a.block==b.block&&a.off<b.off+lb*size&&b.off<a.off+la*size))
   | _,_=>pure (Value.bool false)) w es=_
 obtain⟨ab,ao,asp⟩:=a;obtain⟨bb,bo,bsp⟩:=b;by_cases h0:la=0∨lb=0∨i.size=0;simp[run_underlying ht,hz,hz2,hu2,h0,go_sem];cases hkb:ub.size with
 | zero=>omega
 | succ q=>
  simp[run_underlying ht,hz,hz2,hu2,h0,hnb,hnb',frozen,noView,viewAt,mayBeOne,stringish,shape,Sem.run,Sem.runT,hsa,hsb,hfa,hfb,hkb,go_sem];have e1:∀r (w:World) es,Sem.events P (Sem.shape r Sem.pure) w es=es:=λ_ _ _=>rfl;have e2:∀a (w:World) es,Sem.events P (Sem.frozen a Sem.pure) w es=es:=λ_ _ _=>rfl;simp only[e1,e2]
section
variable {W:World}
theorem AtR.X'(A:AtR C nt w0 XN nm0 Ds st ρ a W):YH C st.H ρ W:=let ⟨_,_,_,_,h⟩:=A.ex;h.base.X'
theorem AtR.slot(A:AtR C nt w0 XN nm0 Ds st ρ a W){t:Nat}{s:Slot}(h:look st.sl t=some s)(hg:s.g=[]):∃x,den ρ s.v x∧a.eval (.tmp t)=x:=by obtain⟨_,_,_,_,hR⟩:=A.ex;obtain⟨x,h1,h2⟩:=hR.cw t s h hg;exact⟨x,h1,aY h2⟩
theorem AtR.told(A:AtR C nt w0 XN nm0 Ds st ρ a W){sl:List (Nat×Slot)}{rg:Nat}(h1:∀t s,look sl t=some s->s.rg<=rg)(h2:∀t s,look sl t=some s->s.g=[]->∃x,den ρ s.v x∧a.tmps[t]? = some x):AtR C nt w0 XN nm0 Ds ⟨sl,st.H,st.nm,rg,[],[]⟩ ρ a W:=by obtain⟨w1,Yj,m1,m2,hR⟩:=A.ex;exact⟨⟨w1,Yj,m1,m2,⟨hR.base,h1,h2⟩⟩,A.nd⟩
def vv(st:St)(t:Nat)(v:SV):Prop:=∃s,look st.sl t=some s∧s.v=v∧s.g=[]
def rL(l:List (Nat×SV)):List (Nat×Slot):=l.map λp=>(p.1,⟨0,0,[],p.2⟩)
theorem pV:∀{l:List (Nat×SV)} {t:Nat} {s:Slot},look (rL l) t=some s->s.rg=0∧(t,s.v)∈l
 | [],t,s,h=>by cases h
 | (u,v)::r,t,s,h=>by have h:look ((u,(⟨0,0,[],v⟩:Slot))::rL r) t=some s:=h;rw[aA] at h;split at h;rename_i e;obtain rfl:=Oi h;subst e;exact⟨rfl,J'⟩;obtain⟨h1,h2⟩:=pV h;exact⟨h1,Xm _ h2⟩
theorem AtR.tell(A:AtR C nt w0 XN nm0 Ds st ρ a W)(l:List (Nat×SV))(h:∀p∈l,vv st p.1 p.2):AtR C nt w0 XN nm0 Ds ⟨rL l,st.H,st.nm,0,[],[]⟩ ρ a W:=by refine A.told (λt s hs=>by rw[(pV hs).1];exact F2 _) λt s hs _=>?_;obtain⟨s',h1,h2,h3⟩:=h _ (pV hs).2;obtain⟨_,_,_,_,hR⟩:=A.ex;obtain⟨x,h4,h5⟩:=hR.cw t s' h1 h3;have h2:s'.v=s.v:=h2;exact⟨x,h2▸h4,h5⟩
theorem AtR.le(A:AtR C nt w0 XN nm0 Ds st ρ a W):XN.le ρ:=A.all.1.le
theorem AtR.put(A:AtR C nt w0 XN nm0 Ds st ρ a W)(hd:d<nt){sv:SV}(hv:den ρ sv v):AtR C nt w0 XN nm0 Ds ⟨(d,⟨0,0,[],sv⟩)::st.sl,st.H,st.nm,st.rg,[],[]⟩ ρ (a.put (some d) v) W:=by obtain⟨w1,Yj,m1,m2,hR⟩:=A.ex;have hs:=hR.base.sz;refine⟨⟨w1,Yj,m1,m2,⟨⟨hR.base.mem,hR.base.blk,?_,hR.base.df⟩,λt s h=>?_,λt s h hg=>?_⟩⟩,A.nd⟩;show (a.tmps.setIfInBounds d v).size=nt;rw[Array.size_setIfInBounds];exact hs;rw[aA] at h;split at h;obtain rfl:=Oi h;exact F9 _;exact hR.rgs t s h;rw[aA] at h;split at h;rename_i e;obtain rfl:=Oi h;subst e;exact⟨v,hv,fO (by rw[hs];exact hd)⟩;rename_i e;obtain⟨x,h1,h2⟩:=hR.cw t s h hg;exact⟨x,h1,by rw[cB e];exact h2⟩
theorem vg{vs:List Value}(hn:args.length<=n)(hH:YH C H XN w0)(X5:∀n b,XN.n n=some b->n<nm)(XP:∀e l,XN.v e=some l->e<nm∧l.o<nm)(XQ:∀m i l,XN.k m i=some l->m<nm)(XY:au XN args vs) :
  AtR C n w0 XN.YE nm [] ⟨bw 0 args,H,nm,0,[],[]⟩ XN {tmps:=vs.toArray++Array.replicate (n-vs.toArray.size) undef,defers:=[]} w0:=by
 have hlen:=aB XY;refine⟨⟨w0,XN,Mem.refl hH.hb X5 XP XQ,λD hD=>P' hD List.not_mem_nil,⟨⟨Mem.refl hH.hb X5 XP XQ,hH.blk,by simp;omega,rfl⟩,λt s hs=>?_,λt s hs hg=>?_⟩⟩,List.nodup_nil⟩;obtain⟨i,v,-,-,rfl⟩:=di hs;exact F2 _;obtain⟨i,v,rfl,hv,rfl⟩:=di hs;obtain⟨u,h1,h2⟩:=eu XY hv;refine⟨u,h2,?_⟩;have hl:i<vs.length:=(F3.1 h1).1;rw[B',Array.getElem?_append_left (by simpa using hl)];simpa using h1
theorem AtR.eff(A:AtR C nt w0 XN nm0 Ds st ρ a W){XM:Names}{W':World}{sb:SB}(he:ZB C ρ W st.nm (some st.nm) true XM W')(hc:cS XM W' st.nm sb):AtR C nt w0 XN nm0 Ds ⟨st.sl,(st.nm,sb)::st.H,st.nm+1,st.rg,[],[]⟩ XM a W':=by obtain⟨w1,Yj,m1,m2,hR⟩:=A.ex;refine⟨⟨w1,Yj,m1,m2,⟨⟨hR.base.mem.eff he (λn h=>by obtain rfl:=Oi h;exact Nat.lt_succ_self _),λn Yu h=>?_,hR.base.sz,hR.base.df⟩,hR.rgs,λt s h hg=>?_⟩⟩,A.nd⟩;rw[aA] at h;split at h;rename_i e;obtain rfl:=Oi h;exact e▸hc;rename_i e;exact he.cont hR.base.mem.hb (hR.base.blk n Yu h) (λx=>e (Oi x));obtain⟨x,h1,h2⟩:=hR.cw t s h hg;exact⟨x,bE he.le _ _ h1,h2⟩
end
theorem vG{t tn e:TypeId}{i:TypeInfo}{z:Value}{kn:IntKind}(ht:P.underlying t=some (.slice e))(htn:P.underlying tn=some (.int kn))(hi:P.info? e=some i)(hz:i.zero=some z){b:Option Addr}{Yg sCap:Nat}{olds:List Value}(ho:eL P w i.size Yg (.slice b Yg sCap) olds)(h0:0<n)(hs:0<i.size)(hg:sCap<Yg+n)(h63:Yg+n<=maxLen)(hby:(Yg+n)*i.bytes<=140737488355328) :
  (Builtin.append_ #[t,tn] ty #[.slice b Yg sCap,.int .i64 n]).run P w =
   .ok (.slice (some ⟨w.heap.size,0,none⟩) (Yg+n) (grownCap w (Yg+n) sCap e))
    (w.drew.alloc (.cells (olds.toArray++Builtin.zeroCells z.cells n++Builtin.zeroCells z.cells (grownCap w (Yg+n) sCap e-(Yg+n))) e)):=by
 have Yo:=growslice_fits hg hby;have hm:Yg+n<=9223372036854775807:=by simp only[maxLen] at h63;omega
 have YY:¬(Yg+n<=sCap):=by omega
 have hn:n≠0:=by omega
 have hw:IntKind.i64.wrap (n:Int)=n:=by rw[IntKind.wrap_i64];omega
 have h63':¬(9223372036854775807<((Yg:Int)+(n:Int))):=by omega
 have h48':¬(281474976710656<Builtin.nextslicecap (Yg+n) sCap*i.bytes):=by omega
 have hnb:n*i.bytes<=(Yg+n)*i.bytes:=Xo _ (by omega);have h48i:¬(281474976710656<(n:Int)*(i.bytes:Int)):=by rw[<-Int.natCast_mul];omega
 have hneg:¬((n:Int)<0):=by omega
 have hns:¬(n*i.size=0):=Nat.mul_ne_zero hn (by omega);have hfo:=ho.2 w.drew λ_ _=>rfl;simp[Builtin.append_,run_underlying ht,run_underlying htn,sizeOf,typeInfo,zeroValue,hi,hz,asInt,asIntOf,hw,hn,hneg,hns,YY,h63',h48',h48i,Question.forced,hfo,newRow,grownCap]
section
variable {W:World}
theorem BE(hH:YH C H ρ W)(hf:ρ.v nm=none){t tn e:TypeId}{ei:TI}{kn:IntKind}(Yt:fe C t=some (e,ei))(htn:C.P.underlying tn=some (.int kn))(Y8:0<ei.sz)(hzl:ei.z.length=ei.sz){l ep N:Nat}{h:Nat->List SV}(hl:look H l=some (.lst ep ei.sz N h e)){i k:Nat}(hq:ρ.v ep=some q)(hi:i<=N)(hik:q.cap<i+k)(hk0:0<k)(Yo:gQ (i+k) ei.nb){u:Value}(hx:den ρ (.g l ep ei.sz 0 i) u) :
  ∃y W',(Builtin.append_ #[t,tn] ty #[u,.int .i64 k]).run C.P W=.ok y W'∧∃XM,ZB C ρ W nm (some nm) true XM W'∧cS XM W' nm (.lst nm ei.sz (i+k) (λj=>bif Nat.blt j i then h j else ei.z) e)∧den XM (.g nm nm ei.sz 0 (i+k)) y:=by
 obtain⟨inf,z,ht,XX,hs,hby,hz,Y2⟩:=bV Yt;have hzc:z.cells.size=ei.sz:=by have:=aB (cg (ρ:=ρ) Y2);rw[<-hzl,<-this];simp
 have hr:qZ H ei.sz (.g l ep ei.sz 0 i)=some (i,λj=>h (0+j)):=by simp[qZ,vM,hl]
 obtain⟨ad,c,olds,rfl,hn,h1,hk⟩:=ju hH Y8 hr hx;have hc:c=q.cap:=by obtain⟨lv,p1,p2,p3,p4,a',e1,p6⟩:=hx;rw[hq] at p1;obtain rfl:=Oi p1;injection e1 with e1 e2 e3
 subst hc;have hlen:=hn.1;have hf2:=fits (i:=inf) Yo hby;have hge:=grownCap_ge W (i+k) q.cap e;have XV:=vG (P:=C.P) (w:=W) (ty:=ty) (tn:=tn) (n:=k) ht htn XX hz (by rw[hs];exact hn) hk0 (by rw[hs];exact Y8) hik hf2.1 hf2.2;have g:Gr W (W.drew.alloc (.cells (olds.toArray++Builtin.zeroCells z.cells k++Builtin.zeroCells z.cells (grownCap W (i+k) q.cap e-(i+k))) e)):=(Gr.refl W).drew.alloc _;refine⟨_,_,XV,ρ.fZ nm ⟨nm,some ⟨W.heap.size,0,none⟩,grownCap W (i+k) q.cap e,i+k⟩,eR (l:=⟨nm,some ⟨W.heap.size,0,none⟩,grownCap W (i+k) q.cap e,i+k⟩) hH.hb hf g (λ_ b o h=>?_),?_,?_⟩;injection h with h;injection h with h;subst h;exact⟨F2 _,by simp⟩
 ·refine⟨_,Names.aQ,rfl,rfl,(by show i+k<=grownCap W (i+k) q.cap e;omega),λ_=>⟨W.heap.size,olds++(Builtin.zeroCells z.cells k).toList++(Builtin.zeroCells z.cells (grownCap W (i+k) q.cap e-(i+k))).toList,rfl,?_,?_,?_,?_,?_⟩⟩;have:Zq (W.drew.alloc (.cells (olds.toArray++Builtin.zeroCells z.cells k++Builtin.zeroCells z.cells (grownCap W (i+k) q.cap e-(i+k))) e)) W.heap.size _ e:=Zq.new (w:=W.drew) rfl;have e2:(olds++(Builtin.zeroCells z.cells k).toList++(Builtin.zeroCells z.cells (grownCap W (i+k) q.cap e-(i+k))).toList).toArray=olds.toArray++Builtin.zeroCells z.cells k++Builtin.zeroCells z.cells (grownCap W (i+k) q.cap e-(i+k)):=(by apply Array.ext';simp);rw[e2];exact this
  ·rw[List.length_append,List.length_append,hlen,ga,ga,hzc,<-Nat.add_mul,<-Nat.add_mul]
   congr 1
   dsimp only;omega
  intro c hc;rcases Xr.1 hc with hc|hc;rcases Xr.1 hc with hc|hc;exact h1 c hc;exact gX Y2 c hc;exact gX Y2 c hc;intro i' c Y4;have:=fU (hH.hb.zok _ i' c Y4).1;omega;intro j hj;have hj:j<i+k:=hj;rcases Nat.lt_or_ge j i with X0|hge2;obtain⟨us,k1,k2,k3⟩:=hk j X0;have hb:Nat.blt j i=true:=(by rw[Nat.blt_eq];exact X0);refine⟨us,?_,k2,λq c hq=>?_⟩;dsimp only;rw[hb];dsimp only at k1;rw[B'] at k1;exact k1;have:=k3 q c hq;rw[List.append_assoc,F5 (F3.1 this).1];exact this;have hb:Nat.blt j i=false:=by
   cases hb:Nat.blt j i with
   | false=>rfl
   | true=>rw[Nat.blt_eq] at hb;omega
  refine⟨z.cells.toList,?_,by simpa using hzc,λq c hq=>?_⟩;dsimp only;rw[hb];exact cg Y2;have hql:q<z.cells.size:=(by have:=(F3.1 hq).1;simpa using this);have hmul:i*ei.sz<=j*ei.sz:=Xo _ hge2;have e3:j*ei.sz+q-i*ei.sz=(j-i)*ei.sz+q:=(by rw[Nat.sub_mul];omega);have ZR:(j-i)*ei.sz+ei.sz<=k*ei.sz:=(by rw[<-Nat.succ_mul];exact Xo _ (by omega));rw[List.append_assoc,F6 (by omega),hlen,e3,F5 (by rw[ga,hzc];omega),<-hzc,vY (by omega) hql];simpa using hq
 exact⟨_,Names.aQ,rfl,by simp,(by show i+k<=grownCap W (i+k) q.cap e;omega),some ⟨W.heap.size,0,none⟩,by simp,λ_=>⟨W.heap.size,rfl,by simp⟩⟩
end
end
section
open Go.RowKit
variable {a:Act}{co:Bool}
def EP(n:Nat):SV:=.rs 1 n λ_=>[zZ]
def WV(n:Nat):Cut:=⟨Nat,λk=>k<=n,λk=>⟨[sl 0 (EP n),sl 3 (.il .i64 0),sl 9 (EP n),sl 10 (i64 n),sl 11 (i64 k)],[],0,0,[],[]⟩,λk=>n-k⟩
def gG:SV:=.rs 3 0 λ_=>[]
def WU(n:Nat):Cut:=⟨Nat,λk=>k<=n,λk=>⟨[sl 6 (.g 0 1 3 0 0),sl 25 (EP n),sl 26 (i64 n),sl 27 (i64 k)],[(0,.lst 1 3 0 (λ_=>[]) 192)],2,0,[],[]⟩,λk=>n-k⟩
open Go.Conc in
theorem Q1{P:Program}{E:Goroutine->World->Prop}{b:Frame}{k:List Item}{cs:List Frame}{W:World}{n:Nat}{l:List (Nat×Value)}{ops:Array Oper}{i d:Nat}{rest:List Nat}(hE:Closed P co E)(hk:b.kind≠.early){t yt:TypeId}{x y:Operand}{p q:Int}(hO:Zl ops i=some (some d,.binOp .sub t x y yt,none))(hS:YC n a l)(hd:d<n)(hx:a.eval x=.int .i64 p)(hy:a.eval y=.int .i64 q)(h:Nxt E b k cs ops rest n d a l (.int .i64 (IntKind.i64.wrap (p-q))) W):E (G (b.at a (.inRegion ops (i::rest)::k)) cs) W:=
 iO hE hk hO hS hd _ (λ_ _ _=>ku hx hy λw=>rfl) h
theorem zB{P:Program}{W:World}{dst:Option Tmp}{ty:TypeId}{pos:String}{after:Array Edge}{guard:Option (Nat×Bool)}{x:Operand}{t:TypeId}{p:Option Addr}{len cap:Nat}(hx:a.eval x=.slice p len cap)(hd:∃e,P.underlying t=some (.slice e)):mX P a ⟨dst,.call ⟨.builtin .cap,#[x],#[t]⟩,ty,pos,after,guard⟩ W (goInt cap):=by obtain⟨e,hd⟩:=hd;refine⟨?_,λW1 _=>?_⟩;simp only[execOp,resolve];exact aa (m:=Builtin.cap_ _ _ _) (Sw _ _ _) λ_=>trivial;have hl:(Builtin.cap_ #[t] ty #[.slice p len cap]).run P W1=.ok (goInt cap) W1:=(by simp[Builtin.cap_,run_underlying hd]);simp only[execOp,resolve,invoke,builtin,Xz,Xy,Xx,List.map_toArray,List.map_cons,List.map_nil,hx,hl]
noncomputable def gB:Code:=eK Tryz.f147
theorem Vv:gB=.seq (.region 0 (Zj (X6 gB)) false) (.seq (.seq (.region 1 (Zj (X6 (X6 (X3 gB)))) false) (.cond (.tmp 6) (cn1 (X3 (X6 (X3 gB)))) .skip)) (.seq (.seq (.region 3 (Zj (X6 (X6 (X3 (X3 gB))))) false) (.seq (.region 4 (Zj (X6 (X3 (X6 (X3 (X3 gB)))))) false) (.cond (.tmp 16) (cn1 (X3 (X3 (X6 (X3 (X3 gB)))))) .skip))) (.seq (.region 6 (Zj (X6 (X3 (X3 (X3 gB))))) false) .ret))):=by kernel_rfl
theorem Ja:∃e,Tryz.prog.underlying 66=some (.slice e):=⟨_,Tryz.underlying66⟩
open Go.Conc in
set_option maxRecDepth 100000 in
set_option maxHeartbeats 1000000 in
theorem Aw(W:World):bj Tryz.prog co 147 #[.slice none 0 0,.int .i64 0] W λe W'=>e=.returned (.slice none 0 0)∧Rv W W':=by
 intro E hE cs hc;have hS0:YC 27 {tmps:=#[.slice none 0 0,.int .i64 0]++Array.replicate 25 undef,defers:=[]} [(0,.slice none 0 0),(1,.int .i64 0)]:=⟨by simp,λt v e=>by
  simp only[aA] at e;split at e;rename_i x;subst x;obtain rfl:=Oi e;kernel_rfl;split at e;rename_i x;subst x;obtain rfl:=Oi e;kernel_rfl
  ·cases e⟩
 have he:Frame.enter Tryz.prog 147 #[.slice none 0 0,.int .i64 0] .normal=(base 147).at {tmps:=#[.slice none 0 0,.int .i64 0]++Array.replicate 25 undef,defers:=[]} [.code gB]:=by kernel_rfl
 rw[he];have hd0:({tmps:=#[.slice none 0 0,.int .i64 0]++Array.replicate 25 undef,defers:=[]} : Act).defers=[]:=rfl;generalize ({tmps:=#[.slice none 0 0,.int .i64 0]++Array.replicate 25 undef,defers:=[]} : Act)=a0 at hS0 hd0 ⊢;have hb:(base 147).kind≠.early:=by decide
 refine b7 hE _ _ Vv ?_;refine aR hE _ _ 1 rfl (by kernel_rfl) ?_;refine fN (d:=4) (x:=.const (.slice none 0 0)) hE hb (by kernel_rfl) hS0 (by decide) (.slice none 0 0) rfl λa1 Y6 d1=>?_;refine aw hE ?_;refine b7 hE _ _ rfl ?_;refine b7 hE _ _ rfl ?_;refine aR hE _ _ 2 rfl (by kernel_rfl) ?_;refine dM (d:=5) (x:=.tmp 1) hE hb (by kernel_rfl) Y6 (by decide) (.int .i64 0) (Y6.ev rfl) λa2 Zu d2=>?_;refine wm (d:=6) (t:=3) (yt:=3) (x:=.tmp 5) (y:=.const (.int .i64 0)) hE hb (by kernel_rfl) Zu (by decide) (Zu.ev rfl) rfl λa3 hS3 d3=>?_;refine aw hE ?_;refine s_cond hE 6 _ _ rfl hS3 false rfl ?_;refine k9 hE rfl ?_;refine b7 hE _ _ rfl ?_;refine b7 hE _ _ rfl ?_;refine aR hE _ _ 8 rfl (by kernel_rfl) ?_;refine dM (d:=8) (x:=.tmp 1) hE hb (by kernel_rfl) hS3 (by decide) (.int .i64 0) (hS3.ev rfl) λa4 hS4 d4=>?_;refine dM (d:=9) (x:=.tmp 0) hE hb (by kernel_rfl) hS4 (by decide) (.slice none 0 0) (hS4.ev rfl) λa5 Z6 d5=>?_;refine iO (d:=10) (op:=.call ⟨.builtin .cap,#[.tmp 9],#[66]⟩) hE hb (by kernel_rfl) Z6 (by decide) (.int .i64 0) (λ_ _ _=>zB (Z6.ev rfl) Ja) λa6 hS6 d6=>?_;refine dM (d:=11) (x:=.tmp 0) hE hb (by kernel_rfl) hS6 (by decide) (.slice none 0 0) (hS6.ev rfl) λa7 hS7 d7=>?_;refine Ep (d:=12) (t:=66) (x:=.tmp 11) hE hb (by kernel_rfl) hS7 (by decide) (hS7.ev rfl) Ja λa8 hS8 d8=>?_;refine Q1 (d:=13) (t:=3) (yt:=3) (x:=.tmp 10) (y:=.tmp 12) hE hb (by kernel_rfl) hS8 (by decide) (hS8.ev rfl) (hS8.ev rfl) λa9 hS9 d9=>?_;refine Q1 (d:=14) (t:=3) (yt:=3) (x:=.tmp 8) (y:=.tmp 13) hE hb (by kernel_rfl) hS9 (by decide) (hS9.ev rfl) (hS9.ev rfl) λa10 hS10 d10=>?_;refine fN (d:=1) (x:=.tmp 14) hE hb (by kernel_rfl) hS10 (by decide) (.int .i64 0) (hS10.ev (by rfl)) λa11 hS11 d11=>?_;refine aw hE ?_;refine b7 hE _ _ rfl ?_;refine aR hE _ _ 2 rfl (by kernel_rfl) ?_;refine dM (d:=15) (x:=.tmp 1) hE hb (by kernel_rfl) hS11 (by decide) (.int .i64 0) (hS11.ev rfl) λa12 hS12 d12=>?_;refine Q2 (d:=16) (t:=3) (yt:=3) (x:=.tmp 15) (y:=.const (.int .i64 0)) hE hb (by kernel_rfl) hS12 (by decide) (hS12.ev rfl) rfl λa13 hS13 d13=>?_;refine aw hE ?_;refine s_cond hE 16 _ _ rfl hS13 false rfl ?_;refine k9 hE rfl ?_;refine b7 hE _ _ rfl ?_;refine aR hE _ _ 2 rfl (by kernel_rfl) ?_;refine dM (d:=26) (x:=.tmp 0) hE hb (by kernel_rfl) hS13 (by decide) (.slice none 0 0) (hS13.ev rfl) λa14 hS14 d14=>?_;refine fN (d:=4) (x:=.tmp 26) hE hb (by kernel_rfl) hS14 (by decide) (.slice none 0 0) (hS14.ev rfl) λa15 hS15 d15=>?_;refine aw hE ?_;refine LG hE rfl ?_;have hr:Tryz.f147.results=#[.tmp 4]:=by kernel_rfl
 refine hc (.returned (.slice none 0 0)) W _ ⟨rfl,Rv.refl W⟩ rfl ⟨rfl,?_,rfl,_,Tryz.func147,?_⟩;exact d15.trans (d14.trans (d13.trans (d12.trans (d11.trans (d10.trans (d9.trans (d8.trans (d7.trans (d6.trans (d5.trans (d4.trans (d3.trans (d2.trans (d1.trans hd0))))))))))))));rw[results_tmp hr];have:=hS15.ev (t:=4) rfl;exact O' (λv=>Result.ok v W) this
set_option maxRecDepth 100000 in
noncomputable def Mj:XR cx:=ru 147 Tryz.call147 (de (fl:=[]) (fn:=Tryz.f147) Tryz.func147 (by kernel_rfl)) (aH YS (Yp .i64)) (λx=>[x.1=zZ,x.2=0]) (λ_=>zZ) λx ze W vs hp hG hz hd=>by obtain⟨x,n⟩:=x;obtain⟨rfl,rfl⟩:x=zZ∧n=0:=hp;obtain⟨u,w,rfl,rfl,u2,w2,rfl,rfl,rfl⟩:=hd;exact(Aw W).mono λe W' ⟨h1,h2⟩=>⟨_,λ_ _ _=>False,h1,db h2,λ_ _ _ h=>h.elim,rfl⟩
set_option maxRecDepth 100000 in
set_option maxHeartbeats 2000000 in
theorem B0:∀x:SV,aD ((λx=>[∃n:Nat,x=EP n∧n<=1000]) x)->aJ (C:=cx) [Mj] [] 0 ⟨[],[],[3,11],0⟩ Tryz.f99 ((bh YS).enc x) λv H _=>fH ((λ_=>gG) x) H v:=by
 intro x hx;obtain⟨n,rfl,hn⟩:=hx;refine F8 (WV n) ?_;refine Ai ?_ ?_
 ·refine⟨(0:Nat),[],[],trivial,F9 _,?_⟩;repeat' (first|apply Ai|exact rfl|intro)
 refine fun(k:Nat) (hk:k<=n)=>?_;refine Ai (λhb=>?_) (λhb=>?_)
 ·have hb:(k:Int)<n:=Od hb;refine Ai ⟨by omega,by omega⟩ ?_;refine Ai (by unfold XT;omega:XT ((k:Int)+1)) ?_;refine⟨k+1,[],[],(by show n-(k+1)<n-k;omega),(by omega:k+1<=n),?_⟩;repeat' (first|apply Ai|exact rfl|intro)
 refine Ai ⟨rfl,rfl⟩ ?_;refine F8 (WU n) ?_;refine Ai ?_ ?_
 ·refine⟨(0:Nat),[],[.slot2 6 3 192],trivial,F9 _,?_⟩;repeat' (first|apply Ai|exact rfl|intro)
  all_goals exact P' ‹_<0› (F1 _)
 refine fun(k:Nat) (hk:k<=n)=>?_;refine Ai (λhb=>?_) (λhb=>?_)
 ·have hb:(k:Int)<n:=Od hb;refine Ai ⟨by omega,by omega⟩ ?_;refine Ai (Ai (⟨F9 _,by decide⟩:gQ (0+0) 24) (λj h=>P' h (F1 _))) ?_;refine Ai (by unfold XT;omega:XT ((k:Int)+1)) ?_;refine⟨k+1,[(1,2)],[],(by show n-(k+1)<n-k;omega),(by omega:k+1<=n),?_⟩;repeat' (first|apply Ai|exact rfl|intro)
  all_goals exact P' ‹_<0› (F1 _)
 repeat' (first|apply Ai|exact rfl|intro)
 all_goals exact P' ‹_<0› (F1 _)
noncomputable def Dj:XR cx:=jo 99 Tryz.call99 (bh YS) _ _ (λ_=>⟨[],[],[3,11],0⟩) [] (λ_=>rfl) follows Tryz.func99 (by kernel_rfl) B0
end
end Go.Proofs.YtmdpdknpapjchaaGreatDoor
