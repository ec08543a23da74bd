/- A symbolic executor with lists, 18. -/
import Derived.Test.YtgigkennhdolpaaGreatDoorM15
namespace Go.Proofs.YtgigkennhdolpaaGreatDoor
open Go.RowKit
def Ph{PP:Program}(C:Cx PP)(st:St):ResultVar->Option SV
 | .tmp t=>qd st.sl (.tmp t)
 | .cell x t=>match qd st.sl (.tmp x) with
  | some (.p n off)=>CW C st.H (.p n off) t
  | _=>none
def Lt{PP:Program}(C:Cx PP)(st:St):List ResultVar->Option (List SV)
 | []=>some []
 | x::r=>match Ph C st x,Lt C st r with|some v,some l=>some (v::l)|_,_=>none
def qC{PP:Program}(C:Cx PP)(rs:List ResultVar)(st:St)(K:SV->Prop):Prop:=
 match Lt C st rs with
 | none=>False
 | some [v]=>K v
 | some l=>K (.tup l)
section
variable {PP:Program}{C:Cx PP}{Γ:List (UO C)}{nt:Nat}{w0:World}{UM:Names}{I:Ya}{inls:List Nat}
theorem xR{P:Program}{a:Act}{W:World}{t:TypeId}{x:Operand}{v:Value}{dst:Option Tmp}{ty:TypeId}{pos:String}{after:Array Edge}{guard:Option (Nat×Bool)}{p:Addr}
  (hx:a.eval x=.pointer (some p)) (h:(execOp a.eval ⟨dst,.load t x,ty,pos,after,guard⟩).run P W=.ok (.value v) W):(loadVar t p).run P W=.ok v W:=by
 simp only[execOp,hx,Instr.loadAt,Instr.sureAddr,UJ,UI,UH] at h;cases hr:(loadVar t p).run P W with
 | ok u W'=>
  rw[hr] at h;simp only[UH] at h;injection h with h1 h2;injection h1 with h1;rw[h1,h2]
 | halt x W'=>rw[hr] at h;cases h
def rP(tmps:Array Value):ResultVar->Sem Value
 | .tmp t=>pure (tmps.getD t undef)
 | .cell a t=>do loadVar t (<-asAddr (tmps.getD a undef))
theorem Lu{st:St}{ρ:Names}{a:Act}{W:World}(h:Rp C nt w0 UM st ρ a W){x:ResultVar}{v:SV}(e:Ph C st x=some v) :
  ∃u,den ρ v u∧(rP a.tmps x).run C.P W=.ok u W:=by
 cases x with
 | tmp t=>exact⟨_,fY (x:=.tmp t) h e,rfl⟩
 | cell b t=>
  simp only[Ph] at e;split at e;rename_i n off hb;have hx:=fY h hb;obtain⟨u,k1,k2⟩:=yy (dst:=none) (ty:=0) (pos:= "") (after:=#[]) (guard:=none) (y:=.tmp b) h.base.Vg e hx;obtain⟨m,hm,e2⟩:=hx;refine⟨u,k1,?_⟩;have e3:a.tmps.getD b undef=.pointer (some ⟨m,off,none⟩):=e2;simp only[rP,e3,asAddr,UJ,UI,UH];exact xR e2 k2;cases e
theorem vP{st:St}{ρ:Names}{a:Act}{W:World}(h:Rp C nt w0 UM st ρ a W):∀{rs:List ResultVar} {l:List SV},Lt C st rs=some l->
  ∃us,aj ρ l us∧(rs.mapM (rP a.tmps)).run C.P W=.ok us W
 | [],l,e=>by obtain rfl:=Oi e;exact⟨[],rfl,rfl⟩
 | x::r,l,e=>by simp only[Lt] at e;split at e;rename_i v m hv hm;obtain rfl:=Oi e;obtain⟨u,k1,k2⟩:=Lu h hv;obtain⟨us,k3,k4⟩:=vP h hm;refine⟨u::us,aG k1 k3,?_⟩;rw[List.mapM_cons];simp only[UJ,k2,UH,k4,UI];cases e
theorem pX{fn:Func}{a:Act}{W:World}{us:List Value}{P:Program}(h:(fn.results.toList.mapM (rP a.tmps)).run P W=.ok us W) :
  (results fn a.tmps).run P W=.ok (if h:us.toArray.size=1 then us.toArray[0] else .tuple us.toArray) W:=by
 have e:results fn a.tmps=(fn.results.mapM (rP a.tmps) >>= λvs=>pure (if h:vs.size=1 then vs[0] else .tuple vs)):=rfl;rw[e,Array.mapM_eq_mapM_toList];simp only[UJ,Sem.run_map,h,UH,UI]
def bL:Nat->List SV->List (Nat×Slot)
 | _,[]=>[]
 | k,v::r=>(k,⟨0,0,[],v⟩)::bL (k+1) r
theorem eC:∀{l:List SV} {k t:Nat} {s:Slot},look (bL k l) t=some s->∃i v,t=k+i∧l[i]? = some v∧s=⟨0,0,[],v⟩
 | [],k,t,s,h=>by cases h
 | v::r,k,t,s,h=>by by_cases e:k=t;subst e;simp only[bL] at h;rw[af] at h;exact⟨0,v,rfl,rfl,(Oi h).symm⟩;simp only[bL] at h;rw[ab _ _ e] at h;obtain⟨i,u,h1,h2,h3⟩:=eC h;exact⟨i+1,u,by omega,by simpa using h2,h3⟩
def tc{PP:Program}(C:Cx PP)(rs:List ResultVar)(K:SV->aY->Nat->Prop):Ex->St->Prop
 | .exit _,_=>False
 | .normal,st=>qC C rs st λv=>K v st.H st.nm
 | .ret,st=>qC C rs st λv=>K v st.H st.nm
theorem Bv{nt:Nat}{rs:Array ResultVar}{fn:Func}(hrs:fn.results=rs){st:St}{ρ:Names}{a':Act}{W':World}{K:SV->aY->Nat->Prop}(hr:Rp C nt w0 UM st ρ a' W')(hk:qC C rs.toList st (λv=>K v st.H st.nm)) :
  ∃v,(results fn a'.tmps).run C.P W'=.ok v W'∧∃v' H' Vv,K v' H' Vv∧Mem C w0 UM Vv ρ W'∧(∀n sb,look H' n=some sb->cS ρ W' n sb)∧den ρ v' v:=by
 subst hrs;unfold qC at hk;split at hk;exact hk.elim;rename_i v hl;obtain⟨us,k1,k2⟩:=vP hr hl;obtain⟨u,ZV,rfl,k3,k4⟩:=aJ k1;obtain rfl:=cd k4;exact⟨u,pX k2,v,st.H,st.nm,hk,hr.base.mem,hr.base.blk,k3⟩;rename_i l UR hl;obtain⟨us,k1,k2⟩:=vP hr hl;have hne':¬us.toArray.size=1:=by
  intro e;have hlen:=aB k1;have:l.length=1:=by rw[<-hlen];simpa using e
  match l,this with
  | [v],_=>exact UR v rfl
 exact⟨.tuple us.toArray,by rw[pX k2,dif_neg hne'],.tup l,st.H,st.nm,hk,hr.base.mem,hr.base.blk,us,k1,rfl⟩
theorem gQ{f:FuncId}{fn:Func}{code:Code}{args:List SV}{vs:List Value}{H:aY}{nm:Nat}(h:XA)(hI:eu C I)(hm:C.P.follows .mixedOrders=true)
  (hf:C.P.funcs[f]? = some fn) (hb:fn.body=some code) (hn:Nat.ble args.length fn.ntmps=true) (hB:du h.fl code=true) (hH:VQ C H UM w0) (Vf:∀n b,UM.n n=some b->n<nm) (US:∀e l,UM.v e=some l->e<nm∧l.o<nm) (UT:∀m i l,UM.k m i=some l->m<nm) (U7:aj UM args vs) (K:SV->aY->Nat->Prop)
  (he:ev Γ fn.ntmps nm I inls h code ⟨bL 0 args,H,nm,0,[],[]⟩ (tc C fn.results.toList K)) :
  br C.P C.co f vs.toArray w0 λe W'=>∃v val H' Vv UL,e=.returned val∧K v H' Vv∧Mem C w0 UM.VE Vv UL W'∧(∀n sb,look H' n=some sb->cS UL W' n sb)∧den UL v val:=by
 have hlen:=aB U7;have hn:=L' hn;refine oD hf hb ?_;have hrp:Rp C fn.ntmps w0 UM.VE ⟨bL 0 args,H,nm,0,[],[]⟩ UM {tmps:=vs.toArray++Array.replicate (fn.ntmps-vs.toArray.size) undef,defers:=[]} w0:=by refine⟨⟨Mem.refl hH.hb Vf US UT,hH.blk,by simp;omega,rfl⟩,λt s hs=>?_,λt s hs hg=>?_⟩;obtain⟨i,v,-,-,rfl⟩:=eC hs;exact I' _;obtain⟨i,v,rfl,hv,rfl⟩:=eC hs;obtain⟨u,h1,h2⟩:=ef U7 hv;refine⟨u,h2,?_⟩;have hl:i<vs.length:=(J'.1 h1).1;rw[B',Array.getElem?_append_left (by simpa using hl)];simpa using h1
 refine GV (zh (UM:=UM.VE) hI hm Vf US UT code _ _ hB he _ _ _ hrp) ?_;rintro e a' W' ⟨x,st,ρ,rfl,hk,hr⟩;have key:qC C fn.results.toList st (λv=>K v st.H st.nm)->a'.defers=[]∧∃v,(results fn a'.tmps).run C.P W'=.ok v W'∧∃v' val H' Vv UL,Ending.returned v=.returned val∧K v' H' Vv∧Mem C w0 UM.VE Vv UL W'∧(∀n sb,look H' n=some sb->cS UL W' n sb)∧den UL v' val:=by intro hk;obtain⟨v,h1,v',H',Vv,h2,h3,h4,h5⟩:=Bv rfl hr hk;exact⟨hr.base.df,v,h1,v',v,H',Vv,ρ,rfl,h2,h3,h4,h5⟩
 cases x with
 | normal=>exact key hk
 | exit i=>exact hk.elim
 | ret=>exact key hk
end
def fQ(fl:List Nat)(fn:Func):Bool:=match fn.body with|some c=>du fl c|none=>false
theorem cZ{P:Program}{f:FuncId}{fn:Func}{fl:List Nat}(hf:P.funcs[f]? = some fn)(hB:fQ fl fn=true)(args:Array Value):NS P (callFunc f args):=jd hf (by unfold fQ at hB;cases h:fn.body with|none=>rw[h] at hB;cases hB|some c=>rfl) args
structure V3 {PP:Program} (C:Cx PP) where
 f:FuncId
 en:∀(args:Array Value) (w:World),(callFunc f args).run C.P w=.ok (.enter f args) w
 fn:Func
 hf:C.P.funcs[f]? = some fn
 fl:List Nat
 cuts:List Nat
 invs:List Nat
 fu:Nat
 hB:fQ fl fn=true
def yZ{PP:Program}{C:Cx PP} : List (V3 C)->Nat->Option (V3 C)
 | [],_=>none
 | c::r,n=>match Nat.beq c.f n with|true=>some c|false=>yZ r n
theorem Dk{PP:Program}{C:Cx PP} : ∀{l:List (V3 C)} {n:Nat} {c:V3 C},yZ l n=some c->c.f=n
 | [],_,_,h=>by simp[yZ] at h
 | d::r,n,c,h=>by simp only[yZ] at h;split at h;rename_i hb;obtain rfl:=Oi h;exact Nb hb;exact Dk h
def cw{PP:Program}{C:Cx PP} : List (V3 C)->List Nat
 | []=>[]
 | c::r=>c.f::cw r
def jN{PP:Program}{C:Cx PP}(Γ:List (UO C))(Fs:List (V3 C)):Nat->Ya
 | 0=>λ_ _ _ _ _=>False
 | d+1=>λf args H nm K=>match yZ Fs f with
  | none=>False
  | some c=>match c.fn.body,Nat.ble args.length c.fn.ntmps with
   | some code,true=>ev Γ c.fn.ntmps nm (jN Γ Fs d) (cw Fs) ⟨c.fl,c.cuts,c.invs,c.fu⟩ code ⟨bL 0 args,H,nm,0,[],[]⟩ (tc C c.fn.results.toList K)
   | _,_=>False
theorem c6{PP:Program}{C:Cx PP}{Γ:List (UO C)}{Fs:List (V3 C)}(hm:C.P.follows .mixedOrders=true):∀d,eu C (jN Γ Fs d)
 | 0=>λf args H nm K h=>h.elim
 | d+1=>λf args H nm K h=>by simp only[jN] at h;split at h;exact h.elim;rename_i c hc;obtain rfl:=Dk hc;split at h;rename_i code hb hn;have hB:du c.fl code=true:=(by have:=c.hB;unfold fQ at this;rw[hb] at this;exact this);exact⟨c.en,cZ c.hf c.hB,λρ W vs hH Vf US UT U7=>gQ ⟨c.fl,c.cuts,c.invs,c.fu⟩ (c6 hm d) hm c.hf hb hn hB hH Vf US UT U7 K h⟩;exact h.elim
def ae(out:SV)(H:aY)(v:SV):Prop:=match fzK H 4 [v] with
 | some [v']=>aI (vq 0 [] out v')
 | _=>False
def aM{PP:Program}{C:Cx PP}(Γ:List (UO C))(Fs:List (V3 C))(d:Nat)(h:XA)(fn:Func)(args:List SV)(K:SV->aY->Nat->Prop):Prop:=
 match fn.body,Nat.ble args.length fn.ntmps with
 | some code,true=>ev Γ fn.ntmps 0 (jN Γ Fs d) (cw Fs) h code ⟨bL 0 args,[],0,0,[],[]⟩ (tc C fn.results.toList K)
 | _,_=>False
section
variable {PP:Program}{C:Cx PP}{Γ:List (UO C)}{Fs:List (V3 C)}{d:Nat}
theorem fL{ze:Nat->Nat->Value->Prop}{W:World}(hG:C.WT W)(hz:∀b i c,ze b i c->W.cell? ⟨b,i,none⟩=some c∧c.oneCell'=true):VQ C [] (aD ze) W:=by
 have V0:∀n b,¬bT (aD ze) n b:=λn b ho=>by
  rcases ho with ho|⟨e,l,o,h1,-⟩|⟨i,l,o,h1,-⟩
  cases ho;cases h1;cases h1
 have XZ:∀b,¬iX (aD ze).VE b:=λb ho=>by
  rcases ho with ⟨n,ho⟩|ho
  exact V0 n b ho;exact ho
 exact⟨⟨λn n' b h=>Up h (V0 n b),λn b h=>Up h (V0 n b),hz,hG⟩,λn sb h=>by cases h⟩
theorem ox{ze:Nat->Nat->Value->Prop}{W W':World}{out v:SV}{val:Value}{H':aY}{Vv:Nat}{UL:Names}(hk:ae out H' v)(Vm:Mem C W (aD ze).VE Vv UL W')(VP:∀n sb,look H' n=some sb->cS UL W' n sb)(VJ:den UL v val) :
  Gr W W'∧(∀b i c,(zR UL W').z b i c->(ze b i c∨W.heap.size<=b)∧W'.cell? ⟨b,i,none⟩=some c∧c.oneCell'=true)∧den (zR UL W') out val:=by
 have V0:∀n b,¬bT (aD ze) n b:=λn b ho=>by
  rcases ho with ho|⟨e,l,o,h1,-⟩|⟨i,l,o,h1,-⟩
  cases ho;cases h1;cases h1
 have XZ:∀b,¬iX (aD ze).VE b:=λb ho=>by
  rcases ho with ⟨n,ho⟩|ho
  exact V0 n b ho;exact ho
 have hH':VQ C H' UL W':=⟨Vm.hb,VP⟩
 unfold ae at hk;split at hk
 ·rename_i v' hv;have hd:=sK hH' 4 [v] [v'] [val] hv (aG VJ rfl);obtain⟨u,us,e1,e2,e3⟩:=aJ hd;obtain rfl:val=u:=(by injection e1);generalize hq:vq 0 [] out v'=q at hk;cases q with
  | none=>exact hk.elim
  | some q=>
   have Xe:=xx (nm:=0) (σ:=[]) (λi j h=>by omega) out v' q hq hk _ _ e2;refine⟨Vm.keep.G7 XZ,λb i c hz=>⟨?_,hz.1,hz.2.1⟩,bE (ρ:=iq 0 [] (zR UL W')) ⟨λn b h=>?_,λn b h=>?_,λn i b h=>?_,λ_ _ _ h=>h⟩ _ _ Xe⟩
   ·rcases hz.2.2 with h1|⟨n,h1⟩
    rcases Vm.zold b i c h1 with h2|h2|h2;exact .inl h2;exact .inr h2;exact Up h2 (XZ b);rcases Vm.old n b h1 with h2|h2;exact Up h2 (XZ b);exact .inr h2
   have:=(gO h).1;omega;have:=(fP h).1;omega;have:=(dt h).1;omega
 exact hk.elim
theorem Qh{ze:Nat->Nat->Value->Prop}{W W':World}{out v:SV}{val:Value}{H':aY}{Vv:Nat}{UL:Names}(hk:ae out H' v)(Vm:Mem C W (aD ze).VE Vv UL W')(VP:∀n sb,look H' n=some sb->cS UL W' n sb)(VJ:den UL v val) :
  ∃Zn z',Ending.returned val=.returned Zn∧Gr W W'∧(∀b i c,z' b i c->(ze b i c∨W.heap.size<=b)∧W'.cell? ⟨b,i,none⟩=some c∧c.oneCell'=true)∧den (aD z') out Zn:=
 let ⟨h1,h2,h3⟩:=ox hk Vm VP VJ
 ⟨val,(zR UL W').z,rfl,h1,h2,h3⟩
theorem oE{f:FuncId}{fn:Func}{args:List SV}{vs:List Value}{ze:Nat->Nat->Value->Prop}{W:World}{out:SV}(h:XA)(hm:C.P.follows .mixedOrders=true)
  (hf:C.P.funcs[f]? = some fn) (hB:fQ h.fl fn=true) (hG:C.WT W) (hz:∀b i c,ze b i c->W.cell? ⟨b,i,none⟩=some c∧c.oneCell'=true) (U7:aj (aD ze) args vs)
  (he:aM Γ Fs d h fn args λv H _=>ae out H v) :
  br C.P C.co f vs.toArray W λe W'=>∃val z',e=.returned val∧Gr W W'∧(∀b i c,z' b i c->(ze b i c∨W.heap.size<=b)∧W'.cell? ⟨b,i,none⟩=some c∧c.oneCell'=true)∧den (aD z') out val:=by
 unfold aM at he;split at he
 rotate_left
 exact he.elim;rename_i code hb hn;have hB:du h.fl code=true:=by unfold fQ at hB;rw[hb] at hB;exact hB
 refine(gQ h (c6 hm d) hm hf hb hn hB (fL hG hz) (λn b h=>by cases h) (λe l h=>by cases h) (λm i l h=>by cases h) U7 _ he).mono ?_;rintro e W' ⟨v,val,H',Vv,UL,rfl,hk,Vm,VP,VJ⟩;exact Qh hk Vm VP VJ
def obO:List Prop->Option Prop
 | []=>none
 | l=>some (aH l)
theorem vZ{l:List Prop}(h:nB (obO l)):aH l:=by
 cases l with
 | nil=>trivial
 | cons p r=>exact h
structure ZU (α:Type) where
 nA:List SV
 dec:List SV->α
 enc:α->List SV
 ok:∀xs,enc (dec xs)=ZF false nA xs
def eZ(out:SV)(H:aY)(v:SV):Prop:=match frS H v with
 | some (v',ps)=>match ps with
  | []=>aI (vq 0 [] out v')
  | p::r=>aH (p::r)∧aI (vq 0 [] out v')
 | none=>False
theorem AR{out:SV}{H:aY}{v:SV}(h:eZ out H v):∃v' ps,frS H v=some (v',ps)∧aH ps∧aI (vq 0 [] out v'):=by unfold eZ at h;split at h;rename_i v' ps hv;split at h;exact⟨_,_,hv,trivial,h⟩;exact⟨_,_,hv,h⟩;exact h.elim
theorem Dd{ze:Nat->Nat->Value->Prop}{W W':World}{out v:SV}{val:Value}{H':aY}{Vv:Nat}{UL:Names}(hk:eZ out H' v)(Vm:Mem C W (aD ze).VE Vv UL W')(VP:∀n sb,look H' n=some sb->cS UL W' n sb)(VJ:den UL v val) :
  ∃Zn z',Ending.returned val=.returned Zn∧Gr W W'∧(∀b i c,z' b i c->(ze b i c∨W.heap.size<=b)∧W'.cell? ⟨b,i,none⟩=some c∧c.oneCell'=true)∧den (aD z') out Zn∧∀b i c,z' b i c->W.heap.size<=b:=by
 have V0:∀n b,¬bT (aD ze) n b:=λn b ho=>by
  rcases ho with ho|⟨e,l,o,h1,-⟩|⟨i,l,o,h1,-⟩
  cases ho;cases h1;cases h1
 have XZ:∀b,¬iX (aD ze).VE b:=λb ho=>by
  rcases ho with ⟨n,ho⟩|ho
  exact V0 n b ho;exact ho
 have hH':VQ C H' UL W':=⟨Vm.hb,VP⟩
 obtain⟨v',ps,hv,Yx,hk⟩:=AR hk;have e2:=I5 hH' v v' ps val hv Yx VJ;generalize hq:vq 0 [] out v'=q at hk;cases q with
 | none=>exact hk.elim
 | some q=>
  have Xe:=xx (nm:=0) (σ:=[]) (λi j h=>by omega) out v' q hq hk _ _ e2;have hnew:∀b i c,(zO UL W').z b i c->W.heap.size<=b:=λb i c hz=>(by obtain⟨-,-,n,h1⟩:=hz;rcases Vm.old n b h1 with h2|h2;exact Up h2 (XZ b);exact h2);refine⟨val,(zO UL W').z,rfl,Vm.keep.G7 XZ,λb i c hz=>⟨.inr (hnew b i c hz),hz.1,hz.2.1⟩,bE (ρ:=iq 0 [] (zO UL W')) ⟨λn b h=>?_,λn b h=>?_,λn i b h=>?_,λ_ _ _ h=>h⟩ _ _ Xe,hnew⟩;have:=(gO h).1;omega;have:=(fP h).1;omega;have:=(dt h).1;omega
theorem FA{f:FuncId}{fn:Func}{args:List SV}{vs:List Value}{ze:Nat->Nat->Value->Prop}{W:World}{out:SV}(h:XA)(hm:C.P.follows .mixedOrders=true)
  (hf:C.P.funcs[f]? = some fn) (hB:fQ h.fl fn=true) (hG:C.WT W) (hz:∀b i c,ze b i c->W.cell? ⟨b,i,none⟩=some c∧c.oneCell'=true) (U7:aj (aD ze) args vs)
  (he:aM Γ Fs d h fn args λv H _=>eZ out H v) :
  br C.P C.co f vs.toArray W λe W'=>∃val z',e=.returned val∧Gr W W'∧(∀b i c,z' b i c->(ze b i c∨W.heap.size<=b)∧W'.cell? ⟨b,i,none⟩=some c∧c.oneCell'=true)∧den (aD z') out val∧∀b i c,z' b i c->W.heap.size<=b:=by
 unfold aM at he;split at he
 rotate_left
 exact he.elim;rename_i code hb hn;have hB:du h.fl code=true:=by unfold fQ at hB;rw[hb] at hB;exact hB
 refine(gQ h (c6 hm d) hm hf hb hn hB (fL hG hz) (λn b h=>by cases h) (λe l h=>by cases h) (λm i l h=>by cases h) U7 _ he).mono ?_;rintro e W' ⟨v,val,H',Vv,UL,rfl,hk,Vm,VP,VJ⟩;exact Dd hk Vm VP VJ
def qf{α:Type}(f:FuncId)(en:∀(args:Array Value) (w:World),(callFunc f args).run C.P w=.ok (.enter f args) w)(hns:∀args:Array Value,NS C.P (callFunc f args))(R:ZU α)(pre:α->List Prop)(out:α->SV)
  (h:∀(a:α) (ze:Nat->Nat->Value->Prop) (W:World) (vs:List Value),aH (pre a)->C.WT W->(∀b i c,ze b i c->W.cell? ⟨b,i,none⟩=some c∧c.oneCell'=true)->aj (aD ze) (R.enc a) vs->
   br C.P C.co f vs.toArray W λe W'=>∃val z',e=.returned val∧Gr W W'∧(∀b i c,z' b i c->(ze b i c∨W.heap.size<=b)∧W'.cell? ⟨b,i,none⟩=some c∧c.oneCell'=true)∧den (aD z') (out a) val):UO C where
 f:=f
 en:=en
 ns:=hns
 run:=λargs=>match fg R.nA args with|some l=>some (obO (l++pre (R.dec args)),out (R.dec args))|none=>none
 fresh:=false
 own:=none
 ok:=by intro ze W args vs ob o hG hz hd hr ho;split at hr;rename_i l hl;obtain⟨rfl,rfl⟩:=P' (Oi hr);obtain⟨c1,c2⟩:=bV (vZ ho);refine(h (R.dec args) ze W vs c2 hG hz ?_).mono (λe W' ⟨val,z',h1,h2,h3,h4⟩=>⟨val,z',h1,h2,h3,h4,(λc=>by cases c),λt c=>by cases c⟩);rw[R.ok];exact cI _ _ _ (fK _ _ l hl c1) hd;cases hr
def ai{α:Type}(f:FuncId)(en:∀(args:Array Value) (w:World),(callFunc f args).run C.P w=.ok (.enter f args) w)(R:ZU α)(pre:α->List Prop)(out:α->SV)(h:α->XA)(fl:List Nat)(Yq:∀a,(h a).fl=fl)(hm:C.P.follows .mixedOrders=true){fn:Func}
  (hf:C.P.funcs[f]? = some fn) (hB:fQ fl fn=true) (he:∀a,aH (pre a)->aM Γ Fs d (h a) fn (R.enc a) λv H _=>ae (out a) H v):UO C:=
 qf f en (cZ hf hB) R pre out λa ze W vs hp hG hz hd=>oE (h a) hm hf (by rw[Yq];exact hB) hG hz hd (he a hp)
def PI{α:Type}(f:FuncId)(en:∀(args:Array Value) (w:World),(callFunc f args).run C.P w=.ok (.enter f args) w)(hns:∀args:Array Value,NS C.P (callFunc f args))(R:ZU α)(pre:α->List Prop)(out:α->SV)
  (h:∀(a:α) (ze:Nat->Nat->Value->Prop) (W:World) (vs:List Value),aH (pre a)->C.WT W->(∀b i c,ze b i c->W.cell? ⟨b,i,none⟩=some c∧c.oneCell'=true)->aj (aD ze) (R.enc a) vs->
   br C.P C.co f vs.toArray W λe W'=>∃val z',e=.returned val∧Gr W W'∧(∀b i c,z' b i c->(ze b i c∨W.heap.size<=b)∧W'.cell? ⟨b,i,none⟩=some c∧c.oneCell'=true)∧den (aD z') (out a) val∧∀b i c,z' b i c->W.heap.size<=b):UO C where
 f:=f
 en:=en
 ns:=hns
 run:=λargs=>match fg R.nA args with|some l=>some (obO (l++pre (R.dec args)),out (R.dec args))|none=>none
 fresh:=true
 own:=none
 ok:=by intro ze W args vs ob o hG hz hd hr ho;split at hr;rename_i l hl;obtain⟨rfl,rfl⟩:=P' (Oi hr);obtain⟨c1,c2⟩:=bV (vZ ho);refine(h (R.dec args) ze W vs c2 hG hz ?_).mono (λe W' ⟨val,z',h1,h2,h3,h4,h5⟩=>⟨val,z',h1,h2,h3,h4,(λ_=>h5),λt c=>by cases c⟩);rw[R.ok];exact cI _ _ _ (fK _ _ l hl c1) hd;cases hr
def iL{α:Type}(f:FuncId)(en:∀(args:Array Value) (w:World),(callFunc f args).run C.P w=.ok (.enter f args) w)(R:ZU α)(pre:α->List Prop)(out:α->SV)(h:α->XA)(fl:List Nat)(Yq:∀a,(h a).fl=fl)(hm:C.P.follows .mixedOrders=true){fn:Func}
  (hf:C.P.funcs[f]? = some fn) (hB:fQ fl fn=true) (he:∀a,aH (pre a)->aM Γ Fs d (h a) fn (R.enc a) λv H _=>eZ (out a) H v):UO C:=
 PI f en (cZ hf hB) R pre out λa ze W vs hp hG hz hd=>FA (h a) hm hf (by rw[Yq];exact hB) hG hz hd (he a hp)
def qQ(Zo no:Nat)(fo:Nat->List SV)(t0:TypeId)(H:aY)(v:SV):Prop:=match v with
 | .e=>no=0
 | .v (.slice _ 0 0)=>no=0
 | .g m e sz off n=>match off with
  | 0=>match look H m with
   | some (.lst e' U9 _ f t)=>e=e'∧U9=Zo∧t=t0∧no=n∧∀i,i<n->gl (fo i)=true∧fo i=f i
   | _=>False
  | _=>False
 | _=>False
def AZ(out:SV)(t0:TypeId)(H:aY)(v:SV):Prop:=match out with
 | .rs Zo no fo=>qQ Zo no fo t0 H v
 | .agg [x,.rs Zo no fo]=>match v with
  | .agg [x',v']=>sO x=true∧x=x'∧qQ Zo no fo t0 H v'
  | _=>False
 | _=>False
def qL(out:SV)(t0:TypeId)(H:aY)(v:SV):Prop:=eZ out H v∧AZ out t0 H v
theorem rV{ze:Nat->Nat->Value->Prop}{W W':World}{v:SV}{Zo no:Nat}{fo:Nat->List SV}{t0:TypeId}{val:Value}{H':aY}{Vv:Nat}{UL:Names}(hk:qQ Zo no fo t0 H' v)(Vm:Mem C W (aD ze).VE Vv UL W')(VP:∀n sb,look H' n=some sb->cS UL W' n sb){zz:Nat->Nat->Value->Prop}(VJ:den UL v val):Ga zz W W' val Zo no fo t0:=by
 have XZ:∀b,¬iX (aD ze).VE b:=λb ho=>by
  rcases ho with ⟨n,ho⟩|ho
  ·rcases ho with ho|⟨e,l,o,h1,-⟩|⟨i,l,o,h1,-⟩
   cases ho;cases h1;cases h1
  exact ho
 unfold qQ at hk;split at hk;obtain⟨a,rfl⟩:=VJ;subst hk;exact⟨a,0,λ_ _ _=>False,λ_ _ _ h=>h.elim,rfl,I' _,λh=>Up rfl h⟩;rename_i a;obtain rfl:val=.slice a 0 0:=VJ;subst hk;exact⟨a,0,λ_ _ _=>False,λ_ _ _ h=>h.elim,rfl,I' _,λh=>Up rfl h⟩;rename_i m e sz off n;split at hk;split at hk;rename_i e' U9 N f t hl;obtain⟨rfl,rfl,rfl,rfl,hf⟩:=hk;obtain⟨l,h1,h2,h3,h4,h5⟩:=VP _ _ hl;obtain⟨l',k1,k2,k3,k4,a',rfl,k6⟩:=VJ;obtain rfl:l=l':=(by rw[h1] at k1;exact Oi k1);refine⟨a',l.cap,λ_ _ _=>False,λ_ _ _ h=>h.elim,by simp,by omega,λhc=>?_⟩;obtain⟨b,u,q1,q2,q3,q4,q5,q6⟩:=h5 hc;obtain⟨b',p1,p2⟩:=k6 (by simpa using hc);obtain rfl:b=b':=(by rw[q1] at p1;injection p1 with p1;injection p1);refine⟨b,u,by rw[p2];simp,?_,q2,q3,q4,λ_ _ h=>h,λi hi=>?_⟩;rcases Vm.old m b (.inr (.inl ⟨e,l,0,h1,h2,hc,q1⟩)) with h|h;exact Up h (XZ b);exact h;obtain⟨us,r1,r2,r3⟩:=q6 i (by omega);obtain⟨s1,s2⟩:=hf i hi;refine⟨us,?_,r2,r3⟩;rw[<-s2] at r1;exact eB _ _ s1 r1;exact hk.elim;exact hk.elim;exact hk.elim
theorem EI{ze:Nat->Nat->Value->Prop}{W W':World}{out v:SV}{t0:TypeId}{val:Value}{H':aY}{Vv:Nat}{UL:Names}(hk:AZ out t0 H' v)(Vm:Mem C W (aD ze).VE Vv UL W')(VP:∀n sb,look H' n=some sb->cS UL W' n sb){zz:Nat->Nat->Value->Prop}(VJ:den UL v val):KF zz W W' val t0 out:=by unfold AZ at hk;split at hk;exact rV hk Vm VP VJ;split at hk;obtain⟨h1,rfl,h2⟩:=hk;obtain⟨us,⟨u,w,rfl,d1,v,w2,rfl,d2,rfl⟩,rfl⟩:=VJ;exact⟨u,v,rfl,lP _ _ h1 d1,rV h2 Vm VP d2⟩;exact hk.elim;exact hk.elim
theorem Fz{f:FuncId}{fn:Func}{args:List SV}{vs:List Value}{ze:Nat->Nat->Value->Prop}{W:World}{out:SV}{t0:TypeId}(h:XA)(hm:C.P.follows .mixedOrders=true)
  (hf:C.P.funcs[f]? = some fn) (hB:fQ h.fl fn=true) (hG:C.WT W) (hz:∀b i c,ze b i c->W.cell? ⟨b,i,none⟩=some c∧c.oneCell'=true) (U7:aj (aD ze) args vs)
  (he:aM Γ Fs d h fn args λv H _=>qL out t0 H v) :
  br C.P C.co f vs.toArray W λe W'=>∃val z',e=.returned val∧Gr W W'∧(∀b i c,z' b i c->(ze b i c∨W.heap.size<=b)∧W'.cell? ⟨b,i,none⟩=some c∧c.oneCell'=true)∧den (aD z') out val∧(∀b i c,z' b i c->W.heap.size<=b)∧KF z' W W' val t0 out:=by
 unfold aM at he;split at he
 rotate_left
 exact he.elim;rename_i code hb hn;have hB:du h.fl code=true:=by unfold fQ at hB;rw[hb] at hB;exact hB
 refine(gQ h (c6 hm d) hm hf hb hn hB (fL hG hz) (λn b h=>by cases h) (λe l h=>by cases h) (λm i l h=>by cases h) U7 _ he).mono ?_;rintro e W' ⟨v,val,H',Vv,UL,rfl,⟨hk,hko⟩,Vm,VP,VJ⟩;obtain⟨Zn,z',e1,h2,h3,h4,h5⟩:=Dd hk Vm VP VJ;obtain rfl:val=Zn:=by injection e1
 exact⟨val,z',rfl,h2,h3,h4,h5,EI hko Vm VP VJ⟩
def vV(Zo no:Nat)(fo:Nat->List SV)(t0:TypeId)(H:aY)(v:SV):Prop:=match v with
 | .e=>no=0
 | .v (.slice _ 0 0)=>no=0
 | .g m e sz off n=>match off with
  | 0=>match look H m with
   | some (.lst e' U9 _ f t)=>e=e'∧U9=Zo∧t=t0∧no=n∧∀i,i<n->fo i=f i
   | _=>False
  | _=>False
 | _=>False
theorem AY{ze:Nat->Nat->Value->Prop}{W W':World}{v:SV}{Zo no:Nat}{fo:Nat->List SV}{t0:TypeId}{val:Value}{H':aY}{Vv:Nat}{UL:Names}(hk:vV Zo no fo t0 H' v)(Vm:Mem C W (aD ze).VE Vv UL W')(VP:∀n sb,look H' n=some sb->cS UL W' n sb)(VJ:den UL v val):Ga (zR UL W').z W W' val Zo no fo t0:=by
 have XZ:∀b,¬iX (aD ze).VE b:=λb ho=>by
  rcases ho with ⟨n,ho⟩|ho
  ·rcases ho with ho|⟨e,l,o,h1,-⟩|⟨i,l,o,h1,-⟩
   cases ho;cases h1;cases h1
  exact ho
 have hz0:∀b i c,UL.z b i c->(zR UL W').z b i c:=λb i c h=>⟨(Vm.hb.zok b i c h).1,(Vm.hb.zok b i c h).2,.inl h⟩
 unfold vV at hk;split at hk;obtain⟨a,rfl⟩:=VJ;subst hk;exact⟨a,0,λ_ _ _=>False,λ_ _ _ h=>h.elim,rfl,I' _,λh=>Up rfl h⟩;rename_i a;obtain rfl:val=.slice a 0 0:=VJ;subst hk;exact⟨a,0,λ_ _ _=>False,λ_ _ _ h=>h.elim,rfl,I' _,λh=>Up rfl h⟩;rename_i m e sz off n;split at hk;split at hk;rename_i e' U9 N f t hl;obtain⟨rfl,rfl,rfl,rfl,hf⟩:=hk;obtain⟨l,h1,h2,h3,h4,h5⟩:=VP _ _ hl;obtain⟨l',k1,k2,k3,k4,a',rfl,k6⟩:=VJ;obtain rfl:l=l':=(by rw[h1] at k1;exact Oi k1);refine⟨a',l.cap,UL.z,hz0,by simp,by omega,λhc=>?_⟩;obtain⟨b,u,q1,q2,q3,q4,q5,q6⟩:=h5 hc;obtain⟨b',p1,p2⟩:=k6 (by simpa using hc);obtain rfl:b=b':=(by rw[q1] at p1;injection p1 with p1;injection p1);refine⟨b,u,by rw[p2];simp,?_,q2,q3,q4,q5,λi hi=>?_⟩;rcases Vm.old m b (.inr (.inl ⟨e,l,0,h1,h2,hc,q1⟩)) with h|h;exact Up h (XZ b);exact h;obtain⟨us,r1,r2,r3⟩:=q6 i (by omega);exact⟨us,by rw[hf i hi];exact r1,r2,r3⟩;exact hk.elim;exact hk.elim;exact hk.elim
def PH{α:Type}(f:FuncId)(en:∀(args:Array Value) (w:World),(callFunc f args).run C.P w=.ok (.enter f args) w)(hns:∀args:Array Value,NS C.P (callFunc f args))(R:ZU α)(pre:α->List Prop)(out:α->SV)(t0:TypeId)
  (h:∀(a:α) (ze:Nat->Nat->Value->Prop) (W:World) (vs:List Value),aH (pre a)->C.WT W->(∀b i c,ze b i c->W.cell? ⟨b,i,none⟩=some c∧c.oneCell'=true)->aj (aD ze) (R.enc a) vs->
   br C.P C.co f vs.toArray W λe W'=>∃val z',e=.returned val∧Gr W W'∧(∀b i c,z' b i c->(ze b i c∨W.heap.size<=b)∧W'.cell? ⟨b,i,none⟩=some c∧c.oneCell'=true)∧den (aD z') (out a) val∧(∀b i c,z' b i c->W.heap.size<=b)∧KF z' W W' val t0 (out a)):UO C where
 f:=f
 en:=en
 ns:=hns
 run:=λargs=>match fg R.nA args with|some l=>some (obO (l++pre (R.dec args)),out (R.dec args))|none=>none
 fresh:=true
 own:=some t0
 ok:=by intro ze W args vs ob o hG hz hd hr ho;split at hr;rename_i l hl;obtain⟨rfl,rfl⟩:=P' (Oi hr);obtain⟨c1,c2⟩:=bV (vZ ho);refine(h (R.dec args) ze W vs c2 hG hz ?_).mono (λe W' ⟨val,z',h1,h2,h3,h4,h5,h6⟩=>⟨val,z',h1,h2,h3,h4,(λ_=>h5),λt c=>by cases c;exact h6⟩);rw[R.ok];exact cI _ _ _ (fK _ _ l hl c1) hd;cases hr
def xw{α:Type}(f:FuncId)(en:∀(args:Array Value) (w:World),(callFunc f args).run C.P w=.ok (.enter f args) w)(R:ZU α)(pre:α->List Prop)(out:α->SV)(t0:TypeId)(h:α->XA)(fl:List Nat)(Yq:∀a,(h a).fl=fl)(hm:C.P.follows .mixedOrders=true){fn:Func}
  (hf:C.P.funcs[f]? = some fn) (hB:fQ fl fn=true) (he:∀a,aH (pre a)->aM Γ Fs d (h a) fn (R.enc a) λv H _=>qL (out a) t0 H v):UO C:=
 PH f en (cZ hf hB) R pre out t0 λa ze W vs hp hG hz hd=>Fz (h a) hm hf (by rw[Yq];exact hB) hG hz hd (he a hp)
end
structure Rd (α:Type) where
 pat:SV
 dec:SV->α
 enc:α->SV
 ok:∀x,enc (dec x)=jn false pat x
def VK(k:IntKind):Rd Int:=⟨.v (.int k 0),SV.iv,λn=>.v (.int k n),λ_=>rfl⟩
def Zq:Rd Bool:=⟨.v (.bool false),SV.bv,λn=>.v (.bool n),λ_=>rfl⟩
def V4:Rd SV:=⟨.e,id,id,λ_=>rfl⟩
structure XP where
 n:Nat
 g:Nat->Int
def rdF(k:IntKind):Rd XP:=⟨.rs 1 0 λ_=>[.v (.int k 0)],λx=>⟨x.rn,λi=>(VL (x.rf i)).iv⟩,λf=>.rs 1 f.n λi=>[.v (.int k (f.g i))],λ_=>rfl⟩
section
variable {α β γ δ ε:Type}
def AS:ZU Unit:=⟨[],λ_=>(),λ_=>[],λ_=>rfl⟩
def bh(a:Rd α):ZU α:=⟨[a.pat],λxs=>a.dec (VL xs),λx=>[a.enc x],λxs=>by simp only[a.ok];rfl⟩
def aL(a:Rd α)(b:Rd β):ZU (α×β):=⟨[a.pat,b.pat],λxs=>(a.dec (VL xs),b.dec (VL (Vx xs))),λx=>[a.enc x.1,b.enc x.2],λxs=>by simp only[a.ok,b.ok];rfl⟩
def ib(a:Rd α)(b:Rd β)(c:Rd γ):ZU (α×β×γ):=⟨[a.pat,b.pat,c.pat],λxs=>(a.dec (VL xs),b.dec (VL (Vx xs)),c.dec (VL (Vx (Vx xs)))),λx=>[a.enc x.1,b.enc x.2.1,c.enc x.2.2],λxs=>by simp only[a.ok,b.ok,c.ok];rfl⟩
end
def av:XA:=⟨[],[],[],0⟩
end Go.Proofs.YtgigkennhdolpaaGreatDoor
