/- Company, 54: functions with ranges over functions that hand over nothing. -/
import Derived.Test.YtgigkennhdolpaaGreatDoorM26
import Derived.Test.YtgigkennhdolpaaGreatDoorM25
import Derived.Test.YtgigkennhdolpaaGreatDoorM19
namespace Go.Proofs.YtgigkennhdolpaaGreatDoor
open Go.Conc Go.RowKit
structure qP (W W':World) (r:Nat):Prop where
 os:W'.os=W.os
 tape:W'.tape=W.tape
 output:W'.output=W.output
 size:W'.heap.size=W.heap.size
 block:∀b,b≠r->W'.heap[b]? = W.heap[b]?
 obj:∃o,W.heap[r]? = some o∧o.isCells=false∧o.isWalk=false
theorem lG{W:World}{r:Nat}{o:Obj}(o':Obj)(h:W.heap[r]? = some o)(h1:o.isCells=false)(h2:o.isWalk=false):qP W (W.putObj r o') r:=
 ⟨rfl,rfl,rfl,World.putObj_size,λ_ hb=>World.putObj_heap_other hb,o,h,h1,h2⟩
section
variable {PP:Program}{C:Cx PP}{ρ UT:Names}{W W' w0:World}{r nm nt:Nat}
theorem qP.cell(t:qP W W' r){b i:Nat}{c:Value}(h:W.cell? ⟨b,i,none⟩=some c):W'.cell? ⟨b,i,none⟩=some c:=by
 have hb:b≠r:=by rintro rfl;obtain⟨o,h1,h2,-⟩:=t.obj;unfold World.cell? at h;simp only[h1] at h;cases o<;>simp_all [Obj.isCells]
 exact(cell_of_heap (t.block b hb)).trans h
theorem qP.blk(t:qP W W' r){b:Nat}{u:Array Value}{ty:TypeId}(h:Xi W b u ty):Xi W' b u ty:=by
 have h':W.heap[b]? = some (.cells u ty (0,0)):=h;have hb:b≠r:=by rintro rfl;obtain⟨o,h1,h2,-⟩:=t.obj;rw[h'] at h1;obtain rfl:=Oi h1;cases h2
 exact(t.block b hb).trans h'
theorem qP.map(t:qP W W' r){b:Nat}{es:Array MapEntry}{cl:Nat}(h:W.heap[b]? = some (.map es cl)):W'.heap[b]? = some (.map es cl):=by
 have hb:b≠r:=by rintro rfl;obtain⟨o,h1,-,h2⟩:=t.obj;rw[h] at h1;obtain rfl:=Oi h1;cases h2
 exact(t.block b hb).trans h
theorem HB.ju(h:HB C ρ W)(t:qP W W' r):HB C ρ W':=
 ⟨h.own,λn b hb=>⟨(h.low n b hb).1,by rw[t.size];exact(h.low n b hb).2⟩,λb i c hz=>⟨t.cell (h.zok b i c hz).1,(h.zok b i c hz).2⟩,
  by rw[t.size];exact h.grd.1,λb sb hb=>let ⟨h0,vs,h1,h2⟩:=h.grd.2 b sb hb;⟨h0,vs,h1,λi v hv=>t.cell (h2 i v hv)⟩⟩
theorem fF.ju{q:LV}{sz:Nat}{f:Nat->List SV}{ty:TypeId}(h:fF ρ W q sz f ty)(t:qP W W' r):fF ρ W' q sz f ty:=
 ⟨h.1,λhc=>let ⟨b,u,k1,k2,k3⟩:=h.2 hc;⟨b,u,k1,t.blk k2,k3⟩⟩
theorem c8.ju{n:Nat}{sb:SB}(h:c8 ρ W n sb)(t:qP W W' r):c8 ρ W' n sb:=by
 cases sb with
 | gone=>trivial
 | lay cs ty=>obtain⟨b,vs,h1,h2,h3,h4⟩:=h;exact⟨b,vs,h1,h2,t.blk h3,h4⟩
 | lst e sz N f ty=>
  obtain⟨l,h1,h2,h3,h4,h5⟩:=h;exact⟨l,h1,h2,h3,h4,λhc=>let ⟨b,u,k1,k2,k3⟩:=h5 hc;⟨b,u,k1,t.blk k2,k3⟩⟩
 | mp k ag has g=>obtain⟨b,es,cl,h1,h2,h3⟩:=h;exact⟨b,es,cl,h1,t.map h2,h3⟩
 | nst e sz N f p Vk g tk ty last=>
  obtain⟨l,K⟩:=h;exact⟨l,K.hv,K.ho,K.hN,K.hle,λhc=>let ⟨b,u,k1,k2,k3⟩:=K.row hc;⟨b,u,k1,t.blk k2,k3⟩,λi hi=>let ⟨q,q1,q2,q3⟩:=K.kid i hi;⟨q,q1,q2,q3.ju t⟩,K.no,K.ne⟩
theorem Mem.ju(h:Mem C w0 UT nm ρ W)(t:qP W W' r)(hr:w0.heap.size<=r):Mem C w0 UT nm ρ W':=
 ⟨h.hb.ju t,h.dom,h.domv,h.domk,h.le,h.old,h.zold,t.os.trans h.keep.os,t.tape.trans h.keep.tape,t.output.trans h.keep.output,by rw[t.size];exact h.keep.size,λb hb hn=>(t.block b (by omega)).trans (h.keep.block b hb hn)⟩
theorem Rp.ju{st:St}{a:Act}(h:Rp C nt w0 UT st ρ a W)(t:qP W W' r)(hr:w0.heap.size<=r):Rp C nt w0 UT st ρ a W':=
 ⟨⟨h.base.mem.ju t hr,λn sb hn=>(h.base.blk n sb hn).ju t,h.base.sz,h.base.df⟩,h.rgs,h.cC⟩
end
def ov(D:Nat):Deferred:={target:=.collected D,args:=#[]}
def Names.dd(ρ:Names)(ds:List Deferred):Names:=⟨ρ.n,ρ.v,ρ.k,ρ.z,ds,λ_=>False⟩
section
variable {PP:Program}{C:Cx PP}{Γ:List (UW C)}{nt nm0:Nat}{I:Yj}{inls:List Nat}{h:X1}{w0:World}{UT:Names}{E:Goroutine->World->Prop}{b:Frame}{cs:List Frame}{k:List Item}
theorem Mem.dd{w1 W:World}{Vx ρ:Names}{nm:Nat}{ds:List Deferred}(h:Mem C w1 (Vx.dd ds) nm ρ W):Mem C w1 Vx.VK nm ρ W:=
 ⟨h.hb,h.dom,h.domv,h.domk,⟨h.le.n,h.le.v,h.le.k,h.le.z⟩,h.old,h.zold,h.keep.os,h.keep.tape,h.keep.output,h.keep.size,h.keep.block⟩
structure AtR (C:Cx PP) (nt:Nat) (w0:World) (UT:Names) (nm0:Nat) (Ds:List Nat) (st:St) (ρ:Names) (a:Act) (W:World):Prop where
 ex:∃w1 Vx,Mem C w0 UT nm0 Vx w1∧(∀D∈Ds,w1.heap[D]? = some (.deferred (some []))∧(∀n,¬bY Vx n D)∧w0.heap.size<=D)∧Rp C nt w1 (Vx.dd (Ds.map ov)) st ρ a W
 nd:Ds.Nodup
theorem mR(hE:Closed C.P C.co E)(hI:eP C I)(hm:C.P.follows .mixedOrders=true)(hb:b.kind≠.early)(hr:b.roundOf=none){x:Code}{st:St}{K:Ex->St->Prop}(hB:eB h.fl x=true){Ds:List Nat}{ρ:Names}{a:Act}{W:World}(A:AtR C nt w0 UT nm0 Ds st ρ a W)(he:ev Γ nt nm0 I inls h x st K)
  (next:∀e Vd US a' W',K e Vd->AtR C nt w0 UT nm0 Ds Vd US a' W'->MA (Ex.to e)∧RA E b k cs (Ex.to e) a' W'):E (G (b.at a (.code x::k)) cs) W:=by
 obtain⟨w1,Vx,m1,mk,hR⟩:=A.ex;refine(zy (UT:=Vx.dd (Ds.map ov)) hI hm m1.dom m1.domv m1.domk x st _ hB he ρ a W hR) E hE b k cs hb hr λe a' W' ⟨x',Vd,US,ZZ,Z1,hR'⟩=>?_;subst ZZ;exact next x' Vd US a' W' Z1 ⟨⟨w1,Vx,m1,mk,hR'⟩,A.nd⟩
theorem mQ(hE:Closed C.P C.co E)(hI:eP C I)(hm:C.P.follows .mixedOrders=true)(hb:b.kind≠.early)(hr:b.roundOf=none){c x y y':Code}(hc:c=.seq x y'){st:St}{K:Ex->St->Prop}(Ym:cutAt h.cuts y=false)(hB:eB h.fl x=true){Ds:List Nat}{ρ:Names}{a:Act}{W:World}(A:AtR C nt w0 UT nm0 Ds st ρ a W)(he:ev Γ nt nm0 I inls h (.seq x y) st K)(hK:∀e st,K e st->e=.normal)
  (next:∀Vd US a' W',ev Γ nt nm0 I inls h y Vd K->AtR C nt w0 UT nm0 Ds Vd US a' W'->E (G (b.at a' (.code y'::k)) cs) W'):E (G (b.at a (.code c::k)) cs) W:=by
 subst hc;refine oL hE ?_;simp only[ev,Ym] at he;refine mR hE hI hm hb hr hB A he λe Vd US a' W' hk A'=>?_;cases e with
 | normal=>exact⟨trivial,next Vd US a' W' hk A'⟩
 | exit i=>exact Uw (hK _ _ hk) (by simp)
 | ret=>exact Uw (hK _ _ hk) (by simp)
theorem rG(hE:Closed C.P C.co E)(hI:eP C I)(hm:C.P.follows .mixedOrders=true)(hb:b.kind≠.early)(hr:b.roundOf=none){c x y':Code}(hc:c=.seq x y'){st:St}{ct:Cut}(hB:eB h.fl x=true){Ds:List Nat}{ρ:Names}{a:Act}{W:World}(A:AtR C nt w0 UT nm0 Ds st ρ a W)(he:ev Γ nt nm0 I inls h x st (λe Vd=>e=.normal∧ct.at_ nm0 Vd λ_=>True))
  (next:∀u US a' W',ct.P u->AtR C nt w0 UT nm0 Ds (ct.J u) US a' W'->E (G (b.at a' (.code y'::k)) cs) W'):E (G (b.at a (.code c::k)) cs) W:=by
 subst hc;refine oL hE (mR hE hI hm hb hr hB A he λe Vd US a' W' hk A'=>?_);obtain⟨rfl,hk⟩:=hk;obtain⟨w1,Vx,m1,mk,hR⟩:=A'.ex;obtain⟨u,WU,-,hp,hR2⟩:=hk.rp (UT:=Vx.dd (Ds.map ov)) m1.dom m1.domv m1.domk hR;exact⟨trivial,next u WU a' W' hp ⟨⟨w1,Vx,m1,mk,hR2⟩,A'.nd⟩⟩
theorem vz{n:Nat}{args:List SV}{vs:List Value}{ze:Nat->Nat->Value->Prop}{W:World}(hn:args.length<=n)(hG:C.Xe W)(hz:∀b i c,ze b i c->W.cell? ⟨b,i,none⟩=some c∧c.oneCell'=true)(Vh:ao (aB ze) args vs):AtR C n W (aB ze).VK 0 [] ⟨bB 0 args,[],0,0,[],[]⟩ (aB ze) {tmps:=vs.toArray++Array.replicate (n-vs.toArray.size) undef,defers:=[]} W:=by have hH:=gv hG hz;exact⟨⟨W,aB ze,Mem.refl hH.hb (λn b h=>by cases h) (λe l h=>by cases h) (λm i l h=>by cases h),⟨λD hD=>Uw hD List.not_mem_nil,x8 hn hG hz Vh⟩⟩,List.nodup_nil⟩
theorem AtR.all{Ds:List Nat}{st:St}{ρ:Names}{a:Act}{W:World}(A:AtR C nt w0 UT nm0 Ds st ρ a W):Mem C w0 UT st.nm ρ W∧a.defers=Ds.map ov∧∀D∈Ds,W.heap[D]? = some (.deferred (some []))∧(∀n,¬bY ρ n D)∧w0.heap.size<=D:=by
 obtain⟨w1,Vx,m1,mk,hR⟩:=A.ex;refine⟨m1.trans hR.base.mem.dd,hR.base.df,λD hD=>?_⟩;obtain⟨h1,h2,h3⟩:=mk D hD;have hl:D<w1.heap.size:=(E'.1 h1).1;have hn:¬jq (Vx.dd (Ds.map ov)) D:=λhm=>by
  rcases hm with ⟨n,hn⟩|hn
  exact h2 n hn;exact hn
 refine⟨(hR.base.mem.keep.block D hl hn).trans h1,λn ho=>?_,h3⟩;rcases hR.base.mem.old n D ho with h|h;exact hn h;omega
def cr(H H':bc):Prop:=∀n sb,look H n=some sb->look H' n=some sb
theorem cr.refl(H:bc):cr H H:=λ_ _ h=>h
theorem cr.cons{H H':bc}{k:Nat}{x:SB}(h:cr H H')(hk:look H k=none):cr H ((k,x)::H'):=λn sb hn=>by rw[ah _ _ (λe=>by subst e;rw[hk] at hn;cases hn)];exact h n sb hn
theorem tP{Fs:List (Wl C)}{d m:Nat}(hE:Closed C.P C.co E)(hm:C.P.follows .mixedOrders=true)(hb:b.kind≠.early)(hr:b.roundOf=none){g:Operand}{ps:Array Tmp}{VM body code:Code}{cap:List SV}{st:St}{Ds:List Nat}{ρ:Names}{a:Act}{W:World}(A:AtR C nt w0 UT nm0 Ds st ρ a W)(F:Wl C)(hg:qv st.sl g=some (.f (.func F.f) [] cap))
  (hbd:F.fn.body=some code) (hnt:Nat.ble (cap.length+1) F.fn.ntmps=true)
  (hw:∀l,ev Γ F.fn.ntmps st.nm (gO Γ Fs d) (dT Fs) ⟨F.fl,F.cuts,F.invs,F.fu⟩ code ⟨bB 0 (.v (.func (.yield l) #[] #[])::cap),st.H,st.nm,0,[],[]⟩ (tr C F.fn.results.toList λ_ H' VE=>cr st.H H'∧Nat.ble VE m=true))
  (hK:∀D US a' W',AtR C nt w0 UT m (D::Ds) ⟨st.sl,st.H,m,st.rg,[],[]⟩ US a' W'->E (G (b.at a' k) cs) W'):E (G (b.at a (.code (.rangeFunc g ps VM body)::k)) cs) W:=by
 obtain⟨Vb,Yh,ZV⟩:=A.all;obtain⟨w1,Vx,m1,mk,hR⟩:=A.ex;obtain⟨u,lb,hu,VR,hga⟩:=gN hR hg;obtain rfl:=cq hu;have V6:∀D,W.heap.size<=D->∀n,¬bY ρ n D:=λD hD n ho=>by have:=(Vb.hb.low n D ho).2;omega
 refine J3 (X:=λ_ _ W2 W'=>∃US,Mem C W2 ρ.VK m US W'∧∀n sb,look st.H n=some sb->c8 US W' n sb) hE hb hr hga F.en (λargs=>dC F.hf F.hB args) (λD l W2 g2 hD hDl hl=>?_) λD l W2 W3 W4 o g2 hD hDl hl hX r4 hD4 hl4=>?_
 ·have hB:eB F.fl code=true:=(by have:=F.hB;unfold gG at this;rw[hbd] at this;exact this);have hHok:VY C st.H ρ W2:=hR.base.Vg.gr g2;have Ws:ao ρ (.v (.func (.yield l) #[] #[])::cap) (.func (.yield l) #[] #[]::lb):=aL rfl VR;have:=iy (w0:=W2) (args:=.v (.func (.yield l) #[] #[])::cap) ⟨F.fl,F.cuts,F.invs,F.fu⟩ (cA hm d) hm F.hf hbd hnt hB hHok Vb.dom Vb.domv Vb.domk Ws _ (hw l);rw[show #[Value.func (.yield l) #[] #[]]++lb.toArray=(Value.func (.yield l) #[] #[]::lb).toArray by simp];refine this.mono ?_;rintro e W' ⟨v,val,H',VE,US,rfl,⟨hle,XQ⟩,h1,h2,-⟩;have h1:=h1.up (L' XQ);have h2:∀n sb,look st.H n=some sb->c8 US W' n sb:=λn sb h=>h2 n sb (hle n sb h);have hk:∀D,W.heap.size<=D->D<W2.heap.size->W'.heap[D]? = W2.heap[D]?:=λD h3 h4=>h1.keep.block D h4 λhm=>by
   rcases hm with ⟨n,hn⟩|hn
   exact V6 D h3 n hn;exact hn
  exact⟨⟨_,rfl⟩,hk D hD (by omega),hk l (by omega) hl,US,h1,h2⟩
 obtain⟨US,h1,h2⟩:=hX;have t:=lG (.loop {o with state:=.exhausted}) hl4 rfl rfl;have hs:=Vb.keep.size;have hmem3:Mem C w0 UT m US W4:=((Vb.gr g2).trans h1).gr (cZ r4);have WR:=hmem3.ju t (by omega);have hok4:VY C st.H US W4:=VY.gr ⟨h1.hb,h2⟩ (cZ r4);have hno3:∀D,D<W2.heap.size->(∀n,¬bY ρ n D)->(∀n,¬bY US n D)∧W3.heap[D]? = W2.heap[D]?:=λD hD hn=>by
  have hm:¬jq ρ.VK D:=λhm=>by
   rcases hm with ⟨n,ho⟩|ho
   exact hn n ho;exact ho
  refine⟨λn ho=>?_,h1.keep.block D hD hm⟩;rcases h1.old n D ho with h|h;exact hm h;omega
 refine hK D US _ _ ⟨⟨_,US,WR,λD' Yn=>?_,⟨⟨⟨WR.hb,WR.dom,WR.domv,WR.domk,⟨λ_ _ h=>h,λ_ _ h=>h,λ_ _ _ h=>h,λ_ _ _ h=>h⟩,λn _ ho=>.inl (.inl ⟨n,ho⟩),λ_ _ _ hz=>.inl hz,.refl _ _⟩,λn sb hn=>(hok4.blk n sb hn).ju t,hR.base.sz,?_⟩,hR.rgs,λt s hs hg=>?_⟩⟩,?_⟩;rcases UI.1 Yn with rfl|Yn;refine⟨?_,(hno3 D' (by omega) (V6 D' hD)).1,by omega⟩;rw[World.putObj_heap_other (by omega)];exact hD4;obtain⟨q1,q2,q3⟩:=ZV D' Yn;have U8:D'<W.heap.size:=(E'.1 q1).1;have hlt2:D'<W2.heap.size:=(by have:=g2.size;omega);obtain⟨q4,q5⟩:=hno3 D' hlt2 q2;refine⟨?_,q4,q3⟩;rw[World.putObj_heap_other (by omega)];exact r4.heap _ _ (q5.trans ((g2.block D' U8).trans q1));show {target:=.collected D,args:=#[]}::a.defers=_;rw[Yh];rfl;obtain⟨x,k1,k2⟩:=hR.cC t s hs hg;exact⟨x,bM (ρ:=ρ) ⟨h1.le.n,h1.le.v,h1.le.k,h1.le.z⟩ _ _ k1,k2⟩;refine List.nodup_cons.2 ⟨λYn=>?_,A.nd⟩;have:=(E'.1 (ZV D Yn).1).1;omega
theorem OA{f:FuncId}{fn:Func}(hE:Closed C.P C.co E)(hf:C.P.funcs[f]? = some fn){K:SV->bc->Nat->Prop}{st:St}{ρ:Names}(hk:qN C fn.results.toList st (λv=>K v st.H st.nm))
  (hc:∀v W' fr,(∃v' H' VE US,K v' H' VE∧Mem C w0 UT VE US W'∧(∀n sb,look H' n=some sb->c8 US W' n sb)∧den US v' v)->fr.fn=f->fr.leaving C.P W' (.returned v)->E (G fr cs) W') (todo:List Item) :
  ∀(Ds:List Nat) (a:Act) (W:World),Rp C nt w0 (UT.dd (Ds.map ov)) st ρ a W->Ds.Nodup->(∀D∈Ds,W.heap[D]? = some (.deferred (some []))∧w0.heap.size<=D)->Mem C w0 UT st.nm ρ W->E (G { (fb f).at a todo with mode:=.returning} cs) W:=by
 intro Ds
 induction Ds with
 | nil=>
  intro a W hR _ _ hm;obtain⟨v,h1,v',H',VE,h2,h3,h4,h5⟩:=BO (fn:=fn) rfl hR hk;exact hc v W _ ⟨v',H',VE,ρ,h2,⟨h3.hb,h3.dom,h3.domv,h3.domk,hm.le,hm.old,hm.zold,hm.keep⟩,h4,h5⟩ rfl ⟨rfl,hR.base.df,rfl,fn,hf,h1⟩
 | cons D Ds ih=>
  intro a W hR hnd ZV hm;refine FP hE (hR.base.df:a.defers=_) (ZV D (Ut ..)).1 λW1 r1=>?_;have hD1:=r1.heap _ _ (ZV D (Ut ..)).1;have Xa:=(ZV D (Ut ..)).2;have t:=lG (.deferred none) hD1 rfl rfl;have hm1:=(hm.gr (cZ r1)).ju t Xa;have hnd':=List.nodup_cons.1 hnd;refine ih ⟨a.tmps,Ds.map ov⟩ _ ⟨⟨⟨hm1.hb,hm1.dom,hm1.domv,hm1.domk,?_,?_,?_,?_⟩,λn sb hn=>((hR.base.Vg.gr (cZ r1)).blk n sb hn).ju t,hR.base.sz,rfl⟩,hR.rgs,hR.cC⟩ hnd'.2 (λD' Yn=>?_) hm1;have q:=((hR.later r1).ju t Xa).base.mem.le;exact⟨q.n,q.v,q.k,q.z⟩;exact((hR.later r1).ju t Xa).base.mem.old;exact((hR.later r1).ju t Xa).base.mem.zold;have q:=((hR.later r1).ju t Xa).base.mem.keep;exact⟨q.os,q.tape,q.output,q.size,q.block⟩;have U2:D'≠D:=λe=>hnd'.1 (e▸Yn);refine⟨?_,(ZV D' (UE _ Yn)).2⟩;rw[World.putObj_heap_other U2];exact r1.heap _ _ (ZV D' (UE _ Yn)).1
theorem Aa{f:FuncId}{fn:Func}(hE:Closed C.P C.co E)(hf:C.P.funcs[f]? = some fn){K:SV->bc->Nat->Prop}{st:St}{ρ:Names}(hk:qN C fn.results.toList st (λv=>K v st.H st.nm))
  (hc:∀v W' fr,(∃v' H' VE US,K v' H' VE∧Mem C w0 UT VE US W'∧(∀n sb,look H' n=some sb->c8 US W' n sb)∧den US v' v)->fr.fn=f->fr.leaving C.P W' (.returned v)->E (G fr cs) W') (todo:List Item) {Ds:List Nat} {a:Act} {W:World} (hnoO:∀b,¬UT.o b) (A:AtR C nt w0 UT nm0 Ds st ρ a W):E (G { (fb f).at a todo with mode:=.returning} cs) W:=by
 obtain⟨Vb,Yh,ZV⟩:=A.all;obtain⟨w1,Vx,m1,mk,hR⟩:=A.ex;have WQ:∀b,jq UT b->jq (UT.dd (Ds.map ov)) b:=λb hm=>by rcases hm with h|h;exact .inl h;exact Uw h (hnoO b)
 have hmine':∀b,jq (UT.dd (Ds.map ov)) b->jq UT b:=λb hm=>by rcases hm with h|h;exact .inl h;exact h.elim
 refine OA hE hf hk hc todo Ds a W ⟨⟨⟨Vb.hb,Vb.dom,Vb.domv,Vb.domk,⟨Vb.le.n,Vb.le.v,Vb.le.k,Vb.le.z⟩,λn b ho=>(Vb.old n b ho).imp (WQ b) id,λb i c hz=>(Vb.zold b i c hz).imp id (Or.imp id (WQ b)),Vb.keep.os,Vb.keep.tape,Vb.keep.output,Vb.keep.size,λb hb hn=>Vb.keep.block b hb λhm=>hn (WQ b hm)⟩,hR.base.blk,hR.base.sz,Yh⟩,hR.rgs,hR.cC⟩ A.nd (λD hD=>⟨(ZV D hD).1,(ZV D hD).2.2⟩) Vb
end
set_option maxHeartbeats 2000000
noncomputable def nJ:Wl cx:=⟨125,Tryz.call125,Tryz.f125,Tryz.func125,[],[],[],0,by kernel_rfl⟩
theorem tB{ρ:Names} : ∀{vs us:List Value},ao ρ (vs.map SV.v) us->us=vs
 | [],us,h=>h
 | v::r,us,⟨a,b,e1,e2,e3⟩=>by rw[e1,tB e3];obtain rfl:a=v:=e2;rfl
theorem pV{ρ:Names} : ∀(vs:List Value),ao ρ (vs.map SV.v) vs
 | []=>rfl
 | v::r=>⟨v,r,rfl,rfl,pV r⟩
set_option maxRecDepth 100000 in
theorem Gy(vs:List Value)(t off:Nat):ev (C:=cx) [] nJ.fn.ntmps 1 (gO (C:=cx) [] [] 0) (dT (C:=cx) []) ai (fM nJ.fn) ⟨bB 0 [.p 0 off],[(0,.lay (vs.map SV.v) t)],1,0,[],[]⟩ (tr cx nJ.fn.results.toList λv H' _=>v=.agg [.p 0 (off+0),.p 0 (off+1)]∧cr [(0,.lay (vs.map SV.v) t)] H'):=by repeat' (first|exact cr.cons (cr.cons (cr.refl _) rfl) rfl|(refine Ai ?_ ?_)|(intro _)|exact rfl)
theorem B1{W:World}{b off t:Nat}{vs:List Value}(hG:cx.Xe W)(Xa:cx.gm<=b)(hb:Xi W b vs.toArray t)(h1:∀c∈vs,c.oneCell'=true):bx Tryz.prog false 125 #[.pointer (some ⟨b,off,none⟩)] W λe W'=>e=.returned (.agg #[.pointer (some ⟨b,off,none⟩),.pointer (some ⟨b,off+1,none⟩)])∧Gr W W':=by
 let V1:Names:=⟨λn=>if n=0 then some b else none,λ_=>none,λ_ _=>none,λ_ _ _=>False,[],λ_=>False⟩
 have ow:∀n b',bY V1 n b'↔n=0∧b'=b:=λn b'=>by constructor;rintro(h|⟨e,l,o,h,-⟩|⟨i,l,o,h,-⟩);by_cases e:n=0;simp only[V1,UD e] at h;exact⟨e,(Oi h).symm⟩;simp only[V1,UC e] at h;cases h;cases h;cases h;rintro⟨rfl,rfl⟩;exact .inl (by simp[V1])
 have Vg:VY cx [(0,.lay (vs.map SV.v) t)] V1 W:=by refine⟨⟨λn n' b' h h'=>by rw[((ow _ _).1 h).1,((ow _ _).1 h').1],λn b' h=>?_,λb i c h=>h.elim,hG⟩,λn sb hn=>?_⟩;obtain⟨-,rfl⟩:=(ow _ _).1 h;exact⟨Xa,(E'.1 (show W.heap[b']? = _ from hb)).1⟩;by_cases e:0=n;subst e;obtain rfl:=Oi (show some _=some sb from hn);exact⟨b,vs,by simp[V1],pV vs,hb,h1,λi c h=>h⟩;rw[ah _ _ e] at hn;cases hn
 have Vl:∀n b',V1.n n=some b'->n<1:=λn b' h=>by by_cases e:n=0;omega;simp only[V1,UC e] at h;cases h
 refine(iy (w0:=W) (UT:=V1) (args:=[.p 0 off]) (vs:=[.pointer (some ⟨b,off,none⟩)]) ai (cA follows 0) follows nJ.hf (code:=fM nJ.fn) (by kernel_rfl) (by kernel_rfl) (by kernel_rfl) Vg Vl (λ_ _ h=>by cases h) (λ_ _ _ h=>by cases h) ⟨_,_,rfl,⟨b,by simp[V1],rfl⟩,rfl⟩ _ (Gy vs t off)).mono ?_;rintro e W' ⟨v,val,H',VE,US,rfl,⟨rfl,hle⟩,hm,hc,hd⟩;have n0:US.n 0=some b:=hm.le.n 0 b (by simp[V1,Names.VK]);obtain⟨us,⟨x,y,rfl,⟨b1,e1,rfl⟩,x2,y2,rfl,⟨b2,e2,rfl⟩,rfl⟩,rfl⟩:=hd;obtain rfl:b=b1:=Oi (n0.symm.trans e1);obtain rfl:b=b2:=Oi (n0.symm.trans e2);refine⟨rfl,hm.keep.os,hm.keep.tape,hm.keep.output,hm.keep.size,λx hx=>?_⟩;by_cases e:x=b;subst e;obtain⟨b',us,k1,k2,k3,-⟩:=hc 0 _ (hle 0 _ rfl);obtain rfl:x=b':=Oi (n0.symm.trans k1);obtain rfl:=tB k2;exact(show W'.heap[x]? = _ from k3).trans (show W.heap[x]? = _ from hb).symm;refine hm.keep.block x hx λhmn=>?_;rcases hmn with ⟨n,ho⟩|ho
 exact e ((ow n x).1 ho).2;exact ho
def Pm(H:bc)(_:Nat):List SV->Option DR
 | [.p n off]=>match look H n with
  | some (.lay _ _)=>some ⟨none,.agg [.p n (off+0),.p n (off+1)],none,false⟩
  | _=>none
 | _=>none
set_option maxRecDepth 100000 in
noncomputable def dY:UW cx where
 f:=125
 en:=Tryz.call125
 ns:=dC nJ.hf nJ.hB
 run:=λ_=>none
 fresh:=false
 own:=none
 eff:=some Pm
 ok:=λze W args vs ob out hG hz hd hr ho=>by cases hr
 effOk:=λg hg ρ W H nm args vs r Vg Xq hd hr ho=>by obtain rfl:=Oi hg;unfold Pm at hr;split at hr;rename_i n off;split at hr;rename_i cs t hl;obtain rfl:=Oi hr;obtain⟨x,y,rfl,⟨b,hb,rfl⟩,rfl⟩:=hd;obtain⟨b',us,k1,k2,k3,k4,-⟩:=Vg.blk n _ hl;obtain rfl:b=b':=Oi (hb.symm.trans k1);refine(B1 Vg.hb.grd (Vg.hb.low n b (.inl hb)).1 k3 k4).mono ?_;rintro e W' ⟨rfl,hg⟩;exact⟨_,rfl,ρ,⟨.refl ρ,λ_ _ h=>.inl h,λ_ _ h=>.inl h,λ_ _ _ h=>.inl h,λ_ _=>rfl,hg.os,hg.tape,hg.output,hg.size,λx hx _=>hg.block x hx,Vg.hb.gr hg⟩,λ_ _ h=>(by cases h),⟨_,⟨_,_,rfl,⟨b,hb,rfl⟩,_,_,rfl,⟨b,hb,rfl⟩,rfl⟩,rfl⟩⟩;cases hr;cases hr
noncomputable def Qs:Wl cx:=⟨187,Tryz.call187,Tryz.f187,Tryz.func187,[],[],[],0,by kernel_rfl⟩
noncomputable def Jt:Wl cx:=⟨191,Tryz.call191,Tryz.f191,Tryz.func191,[],[],[],0,by kernel_rfl⟩
noncomputable def wN:Wl cx:=⟨230,Tryz.call230,Tryz.f230,Tryz.func230,[],[],[],2,by kernel_rfl⟩
noncomputable def oA:Wl cx:=⟨235,Tryz.call235,Tryz.f235,Tryz.func235,[1003],[],[],3,by kernel_rfl⟩
noncomputable def Xf:List (Wl cx):=[Qs,Jt]
noncomputable def rB:Code:=fM Tryz.f126
noncomputable def r1:Code:=Ve rB
noncomputable def r2:Code:=Ve r1
noncomputable def r3:Code:=Ve r2
noncomputable def r4:Code:=Ve r3
noncomputable def r5:Code:=Ve r4
noncomputable def E6:Code:=.seq (Vo rB) (.seq (Vo r1) (.seq (Vo r2) (Vo (Vo r3))))
def qK(m:UY)(a:Nat):Int:=match a with|0=>m.bPosX|_=>m.bPosY
def jS(m:UY)(a:Nat):Int:=1048576-m.sign*qK m a
def g9(m:UY)(a:Nat)(most:Int):Int:=min most (jS m a)+1
def FT(m:UY)(a:Nat)(most:Int):Cut:=⟨Unit,λ_=>True,λ_=>⟨[sl 2 (.p 0 0),sl 3 (.p 1 0),sl 7 (.p 2 0),sl 8 (.p 3 0),sl 30 (.f (.func 230) [] [.p 4 0])],[(0,.lay m.cells 216),(1,.lay [i64 most] 3),(2,.lay [i64 (g9 m a most)] 3),(3,.lay [.il .i64 (-1)] 3),(4,.lay m.cells 216)],5,0,[],[]⟩,λ_=>0⟩
structure UY.Ok (m:UY) (a:Nat) (most:Int):Prop where
 ax:m.axis=a
 sg:m.sign=1∨m.sign = -1
 p0 : -1048576<=qK m a
 p1:qK m a<=1048576
 m0:0<=most
 m1:most<=8192
 nr:m.sRopes.n=0
 nb:m.sBodies.n<=1
 me:∀i,i<m.sBodies.n->(m.sBodies.e i).iD=m.bID
set_option maxRecDepth 100000 in
theorem IB(m:UY)(most:Int)(h:m.Ok 0 most):ev (C:=cx) [dY] 68 0 (gO (C:=cx) [dY] Xf 2) (dT Xf) ⟨[],[],[],1⟩ E6 ⟨bB 0 [m.sv,i64 most],[],0,0,[],[]⟩ (λx st=>x=.normal∧(FT m 0 most).at_ 0 st λ_=>True):=by obtain⟨b,r,gx,gy,i,px,py,vx,vy,w,hh,rd,fx,ax,s⟩:=m;obtain⟨h1,h2,h3,h4,h5,h6,-,-,-⟩:=h;obtain rfl:ax=0:=h1;replace h2:s=1∨s = -1:=h2;replace h3 : -1048576<=px:=h3;replace h4:px<=1048576:=h4;refine Ai (show UU (s*px) by unfold UU;rcases h2 with rfl|rfl<;>omega) ?_;refine Ai (show UU (1048576-s*px) by unfold UU;rcases h2 with rfl|rfl<;>omega) ?_;refine Ai ?_ ?_;show UU (min most (1048576-s*px)+1);unfold UU;rcases h2 with rfl|rfl<;>omega;refine⟨rfl,(),[],[],trivial,trivial,?_⟩;repeat' (first|refine Ai ?_ ?_|intro _|exact rfl)
set_option maxRecDepth 100000 in
theorem IA(m:UY)(most:Int)(h:m.Ok 1 most):ev (C:=cx) [dY] 68 0 (gO (C:=cx) [dY] Xf 2) (dT Xf) ⟨[],[],[],1⟩ E6 ⟨bB 0 [m.sv,i64 most],[],0,0,[],[]⟩ (λx st=>x=.normal∧(FT m 1 most).at_ 0 st λ_=>True):=by obtain⟨b,r,gx,gy,i,px,py,vx,vy,w,hh,rd,fx,ax,s⟩:=m;obtain⟨h1,h2,h3,h4,h5,h6,-,-,-⟩:=h;obtain rfl:ax=1:=h1;replace h2:s=1∨s = -1:=h2;replace h3 : -1048576<=py:=h3;replace h4:py<=1048576:=h4;refine Ai (show UU (s*py) by unfold UU;rcases h2 with rfl|rfl<;>omega) ?_;refine Ai (show UU (1048576-s*py) by unfold UU;rcases h2 with rfl|rfl<;>omega) ?_;refine Ai ?_ ?_;show UU (min most (1048576-s*py)+1);unfold UU;rcases h2 with rfl|rfl<;>omega;refine⟨rfl,(),[],[],trivial,trivial,?_⟩;repeat' (first|refine Ai ?_ ?_|intro _|exact rfl)
noncomputable def yb:Code:=Ve (Vo r3)
noncomputable def yc:Code:=Ve (Vo r4)
def rfP:Code->Array Tmp|.block _ (.rangeFunc _ p _ _)=>p|_=>#[]
noncomputable def rfA:Code->Code|.block _ (.rangeFunc _ _ a _)=>a|_=>.skip
noncomputable def rfB:Code->Code|.block _ (.rangeFunc _ _ _ b)=>b|_=>.skip
theorem OV:rB=.seq (Vo rB) r1:=by kernel_rfl
theorem OZ:r1=.seq (Vo r1) r2:=by kernel_rfl
theorem OY:r2=.seq (Vo r2) r3:=by kernel_rfl
theorem OX:r3=.seq (.seq (Vo (Vo r3)) yb) r4:=by kernel_rfl
theorem OW:r4=.seq (.seq (Vo (Vo r4)) yc) r5:=by kernel_rfl
theorem C2:yb=.block 0 (.rangeFunc (.tmp 30) (rfP yb) (rfA yb) (rfB yb)):=by kernel_rfl
theorem C3:yc=.block 2 (.rangeFunc (.tmp 39) (rfP yc) (rfA yc) (rfB yc)):=by kernel_rfl
noncomputable def ieB:Code:=fM wN.fn
noncomputable def ibB:Code:=fM oA.fn
set_option maxRecDepth 100000 in
theorem Nv(m:UY)(a:Nat)(most:Int)(hn:m.sRopes.n=0)(l:Nat):ev (C:=cx) [] wN.fn.ntmps 5 (gO (C:=cx) [] [] 0) (dT (C:=cx) []) ⟨[],[],[],2⟩ ieB ⟨bB 0 [.v (.func (.yield l) #[] #[]),.p 4 0],((FT m a most).J ()).H,5,0,[],[]⟩ (tr cx wN.fn.results.toList λ_ H' VE=>cr ((FT m a most).J ()).H H'∧Nat.ble VE 5=true):=by obtain⟨b,⟨n,r⟩,gx,gy,i,px,py,vx,vy,w,hh,rd,fx,ax,s⟩:=m;obtain rfl:n=0:=hn;refine Ai (λhb=>Uw (show decide ((0:Int)<0)=true from hb) (by decide)) (λhb=>?_);exact⟨cr.refl _,rfl⟩
def FR(m:UY)(a:Nat)(most:Int):Cut:=⟨Unit,λ_=>True,λ_=>⟨[sl 7 (.p 2 0),sl 8 (.p 3 0),sl 39 (.f (.func 235) [] [.p 5 0])],[(2,.lay [i64 (g9 m a most)] 3),(3,.lay [.il .i64 (-1)] 3),(5,.lay m.cells 216)],6,0,[],[]⟩,λ_=>0⟩
set_option maxRecDepth 100000 in
theorem P9(m:UY)(a:Nat)(most:Int):ev (C:=cx) [dY] 68 5 (gO (C:=cx) [dY] Xf 2) (dT Xf) ⟨[],[],[],1⟩ (Vo (Vo r4)) ((FT m a most).J ()) (λx st=>x=.normal∧(FR m a most).at_ 5 st λ_=>True):=by refine⟨rfl,(),[],[],trivial,trivial,?_⟩;repeat' (first|refine Ai ?_ ?_|intro _|exact rfl)
set_option maxRecDepth 100000 in
theorem Gu(m:UY)(a:Nat)(most:Int)(hn:m.sBodies.n<=1)(hm:∀i,i<m.sBodies.n->(m.sBodies.e i).iD=m.bID)(l:Nat):ev (C:=cx) [] oA.fn.ntmps 6 (gO (C:=cx) [] [] 0) (dT (C:=cx) []) ⟨[1003],[],[],3⟩ ibB ⟨bB 0 [.v (.func (.yield l) #[] #[]),.p 5 0],((FR m a most).J ()).H,6,0,[],[]⟩ (tr cx oA.fn.results.toList λ_ H' VE=>cr ((FR m a most).J ()).H H'∧Nat.ble VE 7=true):=by
 obtain⟨⟨n,e⟩,r,gx,gy,i,px,py,vx,vy,w,hh,rd,fx,ax,s⟩:=m;replace hn:n<=1:=hn;rcases Nat.lt_or_ge 0 n with hp|hp
 ·obtain rfl:n=1:=(by omega);have hi:(e 0).iD=i:=hm 0 (Nat.zero_lt_one);refine Ai (λhb=>?_) (λhb=>Uw (show decide ((0:Int)<1)=false from hb) (by decide));refine Ai ⟨(by decide:(0:Int)<=0),(by decide:(0:Int)<1)⟩ ?_;refine Ai (λhb=>Uw hi (Od (show decide (¬(e 0).iD=i)=true from hb))) (λhb=>?_);repeat' (first|exact cr.cons (cr.cons (cr.refl _) rfl) rfl|(refine Ai ?_ ?_)|(intro hh;exact Uw (show decide ((1:Int)<1)=true from hh) (by decide))|(intro _)|exact rfl)
 obtain rfl:n=0:=by omega
 refine Ai (λhb=>Uw (show decide ((0:Int)<0)=true from hb) (by decide)) (λhb=>?_);exact⟨cr.refl _,rfl⟩
def Ig(m:UY)(a:Nat)(most:Int):Int:=min most (jS m a)
def sa(m:UY)(a:Nat)(most:Int):SV:=.tup [.v (.int .i64 (Ig m a most)),.v (.int .i64 (-1))]
set_option maxRecDepth 100000 in
theorem HM(m:UY)(a:Nat)(most:Int)(h : -1048576<=g9 m a most∧g9 m a most<=4194304):ev (C:=cx) [dY] 68 7 (gO (C:=cx) [dY] Xf 2) (dT Xf) ⟨[],[],[],1⟩ r5 ⟨((FR m a most).J ()).sl,((FR m a most).J ()).H,7,((FR m a most).J ()).rg,[],[]⟩ (λe st=>e=.ret∧qN cx Tryz.f126.results.toList st λv=>af (sa m a most) st.H v):=by
 refine Ai (show UU (g9 m a most-1) by unfold UU;omega) ?_;repeat' (first|refine Ai ?_ ?_|intro _|exact rfl)
 show Ig m a most=g9 m a most-1;unfold Ig g9;omega
theorem JI{m:UY}{a:Nat}{most:Int}(h:m.Ok a most) : -1048576<=g9 m a most∧g9 m a most<=4194304:=by obtain⟨h1,h2,h3,h4,h5,h6,-,-,-⟩:=h;unfold g9 jS;rcases h2 with h2|h2<;>rw[h2]<;>omega
set_option maxRecDepth 100000 in
set_option maxHeartbeats 1000000 in
theorem E1{m:UY}{a:Nat}{most:Int}(h:m.Ok a most)(ha:a<2){ze:Nat->Nat->Value->Prop}{W:World}{vs:List Value}(hG:cx.Xe W)(hz:∀b i c,ze b i c->W.cell? ⟨b,i,none⟩=some c∧c.oneCell'=true)(hd:ao (aB ze) [m.sv,i64 most] vs) :
  bx Tryz.prog false 126 vs.toArray W λe W'=>∃v val H' VE US,e=.returned val∧af (sa m a most) H' v∧Mem cx W (aB ze).VK VE US W'∧(∀n sb,look H' n=some sb->c8 US W' n sb)∧den US v val:=by
 intro E hE cs XC;have hpre:ev (C:=cx) [dY] 68 0 (gO (C:=cx) [dY] Xf 2) (dT Xf) ⟨[],[],[],1⟩ E6 ⟨bB 0 [m.sv,i64 most],[],0,0,[],[]⟩ (λx st=>x=.normal∧(FT m a most).at_ 0 st λ_=>True):=by rcases Nat.lt_or_ge a 1 with h1|h1;obtain rfl:a=0:=(by omega);exact IB m most h;obtain rfl:a=1:=(by omega);exact IA m most h
 refine mi hE Tryz.func126 (c:=rB) (by kernel_rfl) XC ?_;intro k h3;have hb:(fb 126).kind≠.early:=by decide
 have We:(fb 126).roundOf=none:=rfl;have hI:=cA (C:=cx) (Γ:=[dY]) (Fs:=Xf) follows 2;have hnt:Tryz.f126.ntmps=68:=by kernel_rfl
 rw[hnt];have A0:=vz (C:=cx) (n:=68) (show ([m.sv,i64 most]:List SV).length<=68 from(by decide:2<=68)) hG hz hd;refine mQ (h:=⟨[],[],[],1⟩) hE hI follows hb We OV rfl (by kernel_rfl) A0 hpre (λ_ _ h=>h.1) λst1 Vx a1 W1 he1 A1=>?_;refine mQ (h:=⟨[],[],[],1⟩) hE hI follows hb We OZ rfl (by kernel_rfl) A1 he1 (λ_ _ h=>h.1) λYM WU a2 W2 he2 A2=>?_;refine mQ (h:=⟨[],[],[],1⟩) hE hI follows hb We OY rfl (by kernel_rfl) A2 he2 (λ_ _ h=>h.1) λZ9 ρ3 a3 W3 he3 A3=>?_;rw[OX];refine oL hE ?_;refine rG (h:=⟨[],[],[],1⟩) hE hI follows hb We rfl (by kernel_rfl) A3 he3 λu ρ4 a4 W4 _ A4=>?_;rw[C2];refine oM hE ?_;refine tP (Γ:=[]) (Fs:=[]) (d:=0) (m:=5) hE follows hb We A4 wN (cap:=[.p 4 0]) rfl (code:=ieB) (by kernel_rfl) (by kernel_rfl) (λl=>Nv m a most h.nr l) λD1 ρ5 a5 W5 A5=>?_;refine ia hE ?_;rw[OW];refine oL hE ?_;refine rG (h:=⟨[],[],[],1⟩) hE hI follows hb We rfl (by kernel_rfl) A5 (P9 m a most) λu2 ρ6 a6 W6 _ A6=>?_;rw[C3];refine oM hE ?_;refine tP (Γ:=[]) (Fs:=[]) (d:=0) (m:=7) hE follows hb We A6 oA (cap:=[.p 5 0]) rfl (code:=ibB) (by kernel_rfl) (by kernel_rfl) (λl=>Gu m a most h.nb h.me l) λD2 ρ7 a7 W7 A7=>?_;refine ia hE ?_;refine mR (h:=⟨[],[],[],1⟩) hE hI follows hb We (by kernel_rfl) A7 (HM m a most (JI h)) λe st8 ρ8 a8 W8 hk A8=>?_;have ZH:qN cx Tryz.f126.results.toList st8 (λv=>af (sa m a most) st8.H v)->∀todo,E (G { (fb 126).at a8 todo with mode:=.returning} cs) W8:=λhk todo=>by refine Aa (K:=λv H _=>af (sa m a most) H v) hE Tryz.func126 hk (λv W' fr ⟨v',H',VE,US,q1,q2,q3,q4⟩ hfn hl=>?_) todo (UT:=(aB ze).VK) (λb h=>by cases h) A8;exact XC (.returned v) W' fr ⟨v',v,H',VE,US,rfl,q1,q2,q3,q4⟩ hfn hl
 obtain⟨rfl,hk⟩:=hk;exact⟨trivial,ZH hk⟩
set_option maxRecDepth 100000 in
noncomputable def QZ:UW cx:=qx 126 Tryz.call126 (dC (fl:=[]) (fn:=Tryz.f126) Tryz.func126 (by kernel_rfl)) (aD uN (Vm .i64)) (λx=>[x.1.axis=0∨x.1.axis=1,x.1.Ok x.1.axis.toNat x.2]) (λx=>sa x.1 x.1.axis.toNat x.2) λx ze W vs hp hG hz hd=>by obtain⟨m,most⟩:=x;obtain⟨hx,h⟩:=hp;replace hx:m.axis=0∨m.axis=1:=hx;replace h:m.Ok m.axis.toNat most:=h;refine(E1 h (by rcases hx with e|e<;>rw[e]<;>decide) hG hz hd).mono λe W' ⟨v,val,H',VE,US,h1,h2,h3,h4,h5⟩=>?_;obtain⟨q1,q2,q3⟩:=oC h2 h3 h4 h5;exact⟨val,(zR US W').z,h1,q1,q2,q3⟩
end Go.Proofs.YtgigkennhdolpaaGreatDoor
