/- A symbolic executor with lists, 18. -/
import Derived.Test.YtgigkennhdolpaaGreatDoorM14
namespace Go.Proofs.YtgigkennhdolpaaGreatDoor
open Go.RowKit
def PL{PP:Program}(C:Cx PP)(st:St):ResultVar->Option SV
 | .tmp t=>qv st.sl (.tmp t)
 | .cell x t=>match qv st.sl (.tmp x) with
  | some (.p n off)=>Dt C st.H (.p n off) t
  | _=>none
def Mh{PP:Program}(C:Cx PP)(st:St):List ResultVar->Option (List SV)
 | []=>some []
 | x::r=>match PL C st x,Mh C st r with|some v,some l=>some (v::l)|_,_=>none
def qN{PP:Program}(C:Cx PP)(rs:List ResultVar)(st:St)(K:SV->Prop):Prop:=
 match Mh C st rs with
 | none=>False
 | some [v]=>K v
 | some l=>K (.tup l)
section
variable {PP:Program}{C:Cx PP}{Γ:List (UW C)}{nt:Nat}{w0:World}{UT:Names}{I:Yj}{inls:List Nat}
theorem xZ{P:Program}{a:Act}{W:World}{t:TypeId}{x:Operand}{v:Value}{dst:Option Tmp}{ty:TypeId}{pos:String}{after:Array Edge}{guard:Option (Nat×Bool)}{p:Addr}
  (hx:a.eval x=.pointer (some p)) (h:(execOp a.eval ⟨dst,.load t x,ty,pos,after,guard⟩).run P W=.ok (.value v) W):(loadVar t p).run P W=.ok v W:=by
 simp only[execOp,hx,Instr.loadAt,Instr.sureAddr,UQ,UP,UO] at h;cases hr:(loadVar t p).run P W with
 | ok u W'=>
  rw[hr] at h;simp only[UO] at h;injection h with h1 h2;injection h1 with h1;rw[h1,h2]
 | halt x W'=>rw[hr] at h;cases h
def sh(tmps:Array Value):ResultVar->Sem Value
 | .tmp t=>pure (tmps.getD t undef)
 | .cell a t=>do loadVar t (<-asAddr (tmps.getD a undef))
theorem Mi{st:St}{ρ:Names}{a:Act}{W:World}(h:Rp C nt w0 UT st ρ a W){x:ResultVar}{v:SV}(e:PL C st x=some v) :
  ∃u,den ρ v u∧(sh a.tmps x).run C.P W=.ok u W:=by
 cases x with
 | tmp t=>exact⟨_,gN (x:=.tmp t) h e,rfl⟩
 | cell b t=>
  simp only[PL] at e;split at e;rename_i n off hb;have hx:=gN h hb;obtain⟨u,k1,k2⟩:=yI (dst:=none) (ty:=0) (pos:= "") (after:=#[]) (guard:=none) (y:=.tmp b) h.base.Vg e hx;obtain⟨m,hm,e2⟩:=hx;refine⟨u,k1,?_⟩;have e3:a.tmps.getD b undef=.pointer (some ⟨m,off,none⟩):=e2;simp only[sh,e3,asAddr,UQ,UP,UO];exact xZ e2 k2;cases e
theorem vW{st:St}{ρ:Names}{a:Act}{W:World}(h:Rp C nt w0 UT st ρ a W):∀{rs:List ResultVar} {l:List SV},Mh C st rs=some l->
  ∃us,ao ρ l us∧(rs.mapM (sh a.tmps)).run C.P W=.ok us W
 | [],l,e=>by obtain rfl:=Oi e;exact⟨[],rfl,rfl⟩
 | x::r,l,e=>by simp only[Mh] at e;split at e;rename_i v m hv hm;obtain rfl:=Oi e;obtain⟨u,k1,k2⟩:=Mi h hv;obtain⟨us,k3,k4⟩:=vW h hm;refine⟨u::us,aL k1 k3,?_⟩;rw[List.mapM_cons];simp only[UQ,k2,UO,k4,UP];cases e
theorem ql{fn:Func}{a:Act}{W:World}{us:List Value}{P:Program}(h:(fn.results.toList.mapM (sh a.tmps)).run P W=.ok us W) :
  (results fn a.tmps).run P W=.ok (if h:us.toArray.size=1 then us.toArray[0] else .tuple us.toArray) W:=by
 have e:results fn a.tmps=(fn.results.mapM (sh a.tmps) >>= λvs=>pure (if h:vs.size=1 then vs[0] else .tuple vs)):=rfl;rw[e,Array.mapM_eq_mapM_toList];simp only[UQ,Sem.run_map,h,UO,UP]
def bB:Nat->List SV->List (Nat×Slot)
 | _,[]=>[]
 | k,v::r=>(k,⟨0,0,[],v⟩)::bB (k+1) r
theorem eS:∀{l:List SV} {k t:Nat} {s:Slot},look (bB k l) t=some s->∃i v,t=k+i∧l[i]? = some v∧s=⟨0,0,[],v⟩
 | [],k,t,s,h=>by cases h
 | v::r,k,t,s,h=>by by_cases e:k=t;subst e;simp only[bB] at h;rw[aj] at h;exact⟨0,v,rfl,rfl,(Oi h).symm⟩;simp only[bB] at h;rw[ah _ _ e] at h;obtain⟨i,u,h1,h2,h3⟩:=eS h;exact⟨i+1,u,by omega,by simpa using h2,h3⟩
def tr{PP:Program}(C:Cx PP)(rs:List ResultVar)(K:SV->bc->Nat->Prop):Ex->St->Prop
 | .exit _,_=>False
 | .normal,st=>qN C rs st λv=>K v st.H st.nm
 | .ret,st=>qN C rs st λv=>K v st.H st.nm
theorem BO{nt:Nat}{rs:Array ResultVar}{fn:Func}(hrs:fn.results=rs){st:St}{ρ:Names}{a':Act}{W':World}{K:SV->bc->Nat->Prop}(hr:Rp C nt w0 UT st ρ a' W')(hk:qN C rs.toList st (λv=>K v st.H st.nm)) :
  ∃v,(results fn a'.tmps).run C.P W'=.ok v W'∧∃v' H' VE,K v' H' VE∧Mem C w0 UT VE ρ W'∧(∀n sb,look H' n=some sb->c8 ρ W' n sb)∧den ρ v' v:=by
 subst hrs;unfold qN at hk;split at hk;exact hk.elim;rename_i v hl;obtain⟨us,k1,k2⟩:=vW hr hl;obtain⟨u,Z6,rfl,k3,k4⟩:=aN k1;obtain rfl:=cq k4;exact⟨u,ql k2,v,st.H,st.nm,hk,hr.base.mem,hr.base.blk,k3⟩;rename_i l U2 hl;obtain⟨us,k1,k2⟩:=vW hr hl;have hne':¬us.toArray.size=1:=by
  intro e;have hlen:=aF k1;have:l.length=1:=by rw[<-hlen];simpa using e
  match l,this with
  | [v],_=>exact U2 v rfl
 exact⟨.tuple us.toArray,by rw[ql k2,dif_neg hne'],.tup l,st.H,st.nm,hk,hr.base.mem,hr.base.blk,us,k1,rfl⟩
theorem iy{f:FuncId}{fn:Func}{code:Code}{args:List SV}{vs:List Value}{H:bc}{nm:Nat}(h:X1)(hI:eP C I)(hm:C.P.follows .mixedOrders=true)
  (hf:C.P.funcs[f]? = some fn) (hb:fn.body=some code) (hn:Nat.ble args.length fn.ntmps=true) (hB:eB h.fl code=true) (hH:VY C H UT w0) (Vl:∀n b,UT.n n=some b->n<nm) (U3:∀e l,UT.v e=some l->e<nm∧l.o<nm) (U4:∀m i l,UT.k m i=some l->m<nm) (Vh:ao UT args vs) (K:SV->bc->Nat->Prop)
  (he:ev Γ fn.ntmps nm I inls h code ⟨bB 0 args,H,nm,0,[],[]⟩ (tr C fn.results.toList K)) :
  bx C.P C.co f vs.toArray w0 λe W'=>∃v val H' VE US,e=.returned val∧K v H' VE∧Mem C w0 UT.VK VE US W'∧(∀n sb,look H' n=some sb->c8 US W' n sb)∧den US v val:=by
 have hlen:=aF Vh;have hn:=L' hn;refine oP hf hb ?_;have hrp:Rp C fn.ntmps w0 UT.VK ⟨bB 0 args,H,nm,0,[],[]⟩ UT {tmps:=vs.toArray++Array.replicate (fn.ntmps-vs.toArray.size) undef,defers:=[]} w0:=by refine⟨⟨Mem.refl hH.hb Vl U3 U4,hH.blk,by simp;omega,rfl⟩,λt s hs=>?_,λt s hs hg=>?_⟩;obtain⟨i,v,-,-,rfl⟩:=eS hs;exact I' _;obtain⟨i,v,rfl,hv,rfl⟩:=eS hs;obtain⟨u,h1,h2⟩:=fw Vh hv;refine⟨u,h2,?_⟩;have hl:i<vs.length:=(J'.1 h1).1;rw[B',Array.getElem?_append_left (by simpa using hl)];simpa using h1
 refine Hs (zy (UT:=UT.VK) hI hm Vl U3 U4 code _ _ hB he _ _ _ hrp) ?_;rintro e a' W' ⟨x,st,ρ,rfl,hk,hr⟩;have key:qN C fn.results.toList st (λv=>K v st.H st.nm)->a'.defers=[]∧∃v,(results fn a'.tmps).run C.P W'=.ok v W'∧∃v' val H' VE US,Ending.returned v=.returned val∧K v' H' VE∧Mem C w0 UT.VK VE US W'∧(∀n sb,look H' n=some sb->c8 US W' n sb)∧den US v' val:=by intro hk;obtain⟨v,h1,v',H',VE,h2,h3,h4,h5⟩:=BO rfl hr hk;exact⟨hr.base.df,v,h1,v',v,H',VE,ρ,rfl,h2,h3,h4,h5⟩
 cases x with
 | normal=>exact key hk
 | exit i=>exact hk.elim
 | ret=>exact key hk
end
def gG(fl:List Nat)(fn:Func):Bool:=match fn.body with|some c=>eB fl c|none=>false
theorem dC{P:Program}{f:FuncId}{fn:Func}{fl:List Nat}(hf:P.funcs[f]? = some fn)(hB:gG fl fn=true)(args:Array Value):NS P (callFunc f args):=jA hf (by unfold gG at hB;cases h:fn.body with|none=>rw[h] at hB;cases hB|some c=>rfl) args
structure Wl {PP:Program} (C:Cx PP) where
 f:FuncId
 en:∀(args:Array Value) (w:World),(callFunc f args).run C.P w=.ok (.enter f args) w
 fn:Func
 hf:C.P.funcs[f]? = some fn
 fl:List Nat
 cuts:List Nat
 invs:List Nat
 fu:Nat
 hB:gG fl fn=true
def zh{PP:Program}{C:Cx PP} : List (Wl C)->Nat->Option (Wl C)
 | [],_=>none
 | c::r,n=>match Nat.beq c.f n with|true=>some c|false=>zh r n
theorem DZ{PP:Program}{C:Cx PP} : ∀{l:List (Wl C)} {n:Nat} {c:Wl C},zh l n=some c->c.f=n
 | [],_,_,h=>by simp[zh] at h
 | d::r,n,c,h=>by simp only[zh] at h;split at h;rename_i hb;obtain rfl:=Oi h;exact Nb hb;exact DZ h
def dT{PP:Program}{C:Cx PP} : List (Wl C)->List Nat
 | []=>[]
 | c::r=>c.f::dT r
def gO{PP:Program}{C:Cx PP}(Γ:List (UW C))(Fs:List (Wl C)):Nat->Yj
 | 0=>λ_ _ _ _ _=>False
 | d+1=>λf args H nm K=>match zh Fs f with
  | none=>False
  | some c=>match c.fn.body,Nat.ble args.length c.fn.ntmps with
   | some code,true=>ev Γ c.fn.ntmps nm (gO Γ Fs d) (dT Fs) ⟨c.fl,c.cuts,c.invs,c.fu⟩ code ⟨bB 0 args,H,nm,0,[],[]⟩ (tr C c.fn.results.toList K)
   | _,_=>False
theorem cA{PP:Program}{C:Cx PP}{Γ:List (UW C)}{Fs:List (Wl C)}(hm:C.P.follows .mixedOrders=true):∀d,eP C (gO Γ Fs d)
 | 0=>λf args H nm K h=>h.elim
 | d+1=>λf args H nm K h=>by simp only[gO] at h;split at h;exact h.elim;rename_i c hc;obtain rfl:=DZ hc;split at h;rename_i code hb hn;have hB:eB c.fl code=true:=(by have:=c.hB;unfold gG at this;rw[hb] at this;exact this);exact⟨c.en,dC c.hf c.hB,λρ W vs hH Vl U3 U4 Vh=>iy ⟨c.fl,c.cuts,c.invs,c.fu⟩ (cA hm d) hm c.hf hb hn hB hH Vl U3 U4 Vh K h⟩;exact h.elim
def af(out:SV)(H:bc)(v:SV):Prop:=match fzK H 4 [v] with
 | some [v']=>aO (vq 0 [] out v')
 | _=>False
def aH{PP:Program}{C:Cx PP}(Γ:List (UW C))(Fs:List (Wl C))(d:Nat)(h:X1)(fn:Func)(args:List SV)(K:SV->bc->Nat->Prop):Prop:=
 match fn.body,Nat.ble args.length fn.ntmps with
 | some code,true=>ev Γ fn.ntmps 0 (gO Γ Fs d) (dT Fs) h code ⟨bB 0 args,[],0,0,[],[]⟩ (tr C fn.results.toList K)
 | _,_=>False
section
variable {PP:Program}{C:Cx PP}{Γ:List (UW C)}{Fs:List (Wl C)}{d:Nat}
theorem gv{ze:Nat->Nat->Value->Prop}{W:World}(hG:C.Xe W)(hz:∀b i c,ze b i c->W.cell? ⟨b,i,none⟩=some c∧c.oneCell'=true):VY C [] (aB ze) W:=by
 have V6:∀n b,¬bY (aB ze) n b:=λn b ho=>by
  rcases ho with ho|⟨e,l,o,h1,-⟩|⟨i,l,o,h1,-⟩
  cases ho;cases h1;cases h1
 have X7:∀b,¬jq (aB ze).VK b:=λb ho=>by
  rcases ho with ⟨n,ho⟩|ho
  exact V6 n b ho;exact ho
 exact⟨⟨λn n' b h=>Uw h (V6 n b),λn b h=>Uw h (V6 n b),hz,hG⟩,λn sb h=>by cases h⟩
theorem oC{ze:Nat->Nat->Value->Prop}{W W':World}{out v:SV}{val:Value}{H':bc}{VE:Nat}{US:Names}(hk:af out H' v)(Vr:Mem C W (aB ze).VK VE US W')(VW:∀n sb,look H' n=some sb->c8 US W' n sb)(VS:den US v val) :
  Gr W W'∧(∀b i c,(zR US W').z b i c->(ze b i c∨W.heap.size<=b)∧W'.cell? ⟨b,i,none⟩=some c∧c.oneCell'=true)∧den (zR US W') out val:=by
 have V6:∀n b,¬bY (aB ze) n b:=λn b ho=>by
  rcases ho with ho|⟨e,l,o,h1,-⟩|⟨i,l,o,h1,-⟩
  cases ho;cases h1;cases h1
 have X7:∀b,¬jq (aB ze).VK b:=λb ho=>by
  rcases ho with ⟨n,ho⟩|ho
  exact V6 n b ho;exact ho
 have hH':VY C H' US W':=⟨Vr.hb,VW⟩
 unfold af at hk;split at hk
 ·rename_i v' hv;have hd:=sX hH' 4 [v] [v'] [val] hv (aL VS rfl);obtain⟨u,us,e1,e2,e3⟩:=aN hd;obtain rfl:val=u:=(by injection e1);generalize hq:vq 0 [] out v'=q at hk;cases q with
  | none=>exact hk.elim
  | some q=>
   have WS:=xH (nm:=0) (σ:=[]) (λi j h=>by omega) out v' q hq hk _ _ e2;refine⟨Vr.keep.HH X7,λb i c hz=>⟨?_,hz.1,hz.2.1⟩,bM (ρ:=iP 0 [] (zR US W')) ⟨λn b h=>?_,λn b h=>?_,λn i b h=>?_,λ_ _ _ h=>h⟩ _ _ WS⟩
   ·rcases hz.2.2 with h1|⟨n,h1⟩
    rcases Vr.zold b i c h1 with h2|h2|h2;exact .inl h2;exact .inr h2;exact Uw h2 (X7 b);rcases Vr.old n b h1 with h2|h2;exact Uw h2 (X7 b);exact .inr h2
   have:=(iw h).1;omega;have:=(gF h).1;omega;have:=(dM h).1;omega
 exact hk.elim
theorem Qy{ze:Nat->Nat->Value->Prop}{W W':World}{out v:SV}{val:Value}{H':bc}{VE:Nat}{US:Names}(hk:af out H' v)(Vr:Mem C W (aB ze).VK VE US W')(VW:∀n sb,look H' n=some sb->c8 US W' n sb)(VS:den US v val) :
  ∃Zx z',Ending.returned val=.returned Zx∧Gr W W'∧(∀b i c,z' b i c->(ze b i c∨W.heap.size<=b)∧W'.cell? ⟨b,i,none⟩=some c∧c.oneCell'=true)∧den (aB z') out Zx:=
 let ⟨h1,h2,h3⟩:=oC hk Vr VW VS
 ⟨val,(zR US W').z,rfl,h1,h2,h3⟩
theorem oQ{f:FuncId}{fn:Func}{args:List SV}{vs:List Value}{ze:Nat->Nat->Value->Prop}{W:World}{out:SV}(h:X1)(hm:C.P.follows .mixedOrders=true)
  (hf:C.P.funcs[f]? = some fn) (hB:gG h.fl fn=true) (hG:C.Xe W) (hz:∀b i c,ze b i c->W.cell? ⟨b,i,none⟩=some c∧c.oneCell'=true) (Vh:ao (aB ze) args vs)
  (he:aH Γ Fs d h fn args λv H _=>af out H v) :
  bx C.P C.co f vs.toArray W λe W'=>∃val z',e=.returned val∧Gr W W'∧(∀b i c,z' b i c->(ze b i c∨W.heap.size<=b)∧W'.cell? ⟨b,i,none⟩=some c∧c.oneCell'=true)∧den (aB z') out val:=by
 unfold aH at he;split at he
 rotate_left
 exact he.elim;rename_i code hb hn;have hB:eB h.fl code=true:=by unfold gG at hB;rw[hb] at hB;exact hB
 refine(iy h (cA hm d) hm hf hb hn hB (gv hG hz) (λn b h=>by cases h) (λe l h=>by cases h) (λm i l h=>by cases h) Vh _ he).mono ?_;rintro e W' ⟨v,val,H',VE,US,rfl,hk,Vr,VW,VS⟩;exact Qy hk Vr VW VS
def obO:List Prop->Option Prop
 | []=>none
 | l=>some (aA l)
theorem wm{l:List Prop}(h:nE (obO l)):aA l:=by
 cases l with
 | nil=>trivial
 | cons p r=>exact h
structure ZM (α:Type) where
 nD:List SV
 dec:List SV->α
 enc:α->List SV
 ok:∀xs,enc (dec xs)=ZQ false nD xs
def fY(out:SV)(H:bc)(v:SV):Prop:=match frS H v with
 | some (v',ps)=>match ps with
  | []=>aO (vq 0 [] out v')
  | p::r=>aA (p::r)∧aO (vq 0 [] out v')
 | none=>False
theorem Bh{out:SV}{H:bc}{v:SV}(h:fY out H v):∃v' ps,frS H v=some (v',ps)∧aA ps∧aO (vq 0 [] out v'):=by unfold fY at h;split at h;rename_i v' ps hv;split at h;exact⟨_,_,hv,trivial,h⟩;exact⟨_,_,hv,h⟩;exact h.elim
theorem DW{ze:Nat->Nat->Value->Prop}{W W':World}{out v:SV}{val:Value}{H':bc}{VE:Nat}{US:Names}(hk:fY out H' v)(Vr:Mem C W (aB ze).VK VE US W')(VW:∀n sb,look H' n=some sb->c8 US W' n sb)(VS:den US v val) :
  ∃Zx z',Ending.returned val=.returned Zx∧Gr W W'∧(∀b i c,z' b i c->(ze b i c∨W.heap.size<=b)∧W'.cell? ⟨b,i,none⟩=some c∧c.oneCell'=true)∧den (aB z') out Zx∧∀b i c,z' b i c->W.heap.size<=b:=by
 have V6:∀n b,¬bY (aB ze) n b:=λn b ho=>by
  rcases ho with ho|⟨e,l,o,h1,-⟩|⟨i,l,o,h1,-⟩
  cases ho;cases h1;cases h1
 have X7:∀b,¬jq (aB ze).VK b:=λb ho=>by
  rcases ho with ⟨n,ho⟩|ho
  exact V6 n b ho;exact ho
 have hH':VY C H' US W':=⟨Vr.hb,VW⟩
 obtain⟨v',ps,hv,Yu,hk⟩:=Bh hk;have e2:=JD hH' v v' ps val hv Yu VS;generalize hq:vq 0 [] out v'=q at hk;cases q with
 | none=>exact hk.elim
 | some q=>
  have WS:=xH (nm:=0) (σ:=[]) (λi j h=>by omega) out v' q hq hk _ _ e2;have hnew:∀b i c,(zO US W').z b i c->W.heap.size<=b:=λb i c hz=>(by obtain⟨-,-,n,h1⟩:=hz;rcases Vr.old n b h1 with h2|h2;exact Uw h2 (X7 b);exact h2);refine⟨val,(zO US W').z,rfl,Vr.keep.HH X7,λb i c hz=>⟨.inr (hnew b i c hz),hz.1,hz.2.1⟩,bM (ρ:=iP 0 [] (zO US W')) ⟨λn b h=>?_,λn b h=>?_,λn i b h=>?_,λ_ _ _ h=>h⟩ _ _ WS,hnew⟩;have:=(iw h).1;omega;have:=(gF h).1;omega;have:=(dM h).1;omega
theorem Gl{f:FuncId}{fn:Func}{args:List SV}{vs:List Value}{ze:Nat->Nat->Value->Prop}{W:World}{out:SV}(h:X1)(hm:C.P.follows .mixedOrders=true)
  (hf:C.P.funcs[f]? = some fn) (hB:gG h.fl fn=true) (hG:C.Xe W) (hz:∀b i c,ze b i c->W.cell? ⟨b,i,none⟩=some c∧c.oneCell'=true) (Vh:ao (aB ze) args vs)
  (he:aH Γ Fs d h fn args λv H _=>fY out H v) :
  bx C.P C.co f vs.toArray W λe W'=>∃val z',e=.returned val∧Gr W W'∧(∀b i c,z' b i c->(ze b i c∨W.heap.size<=b)∧W'.cell? ⟨b,i,none⟩=some c∧c.oneCell'=true)∧den (aB z') out val∧∀b i c,z' b i c->W.heap.size<=b:=by
 unfold aH at he;split at he
 rotate_left
 exact he.elim;rename_i code hb hn;have hB:eB h.fl code=true:=by unfold gG at hB;rw[hb] at hB;exact hB
 refine(iy h (cA hm d) hm hf hb hn hB (gv hG hz) (λn b h=>by cases h) (λe l h=>by cases h) (λm i l h=>by cases h) Vh _ he).mono ?_;rintro e W' ⟨v,val,H',VE,US,rfl,hk,Vr,VW,VS⟩;exact DW hk Vr VW VS
def qx{α:Type}(f:FuncId)(en:∀(args:Array Value) (w:World),(callFunc f args).run C.P w=.ok (.enter f args) w)(hns:∀args:Array Value,NS C.P (callFunc f args))(R:ZM α)(pre:α->List Prop)(out:α->SV)
  (h:∀(a:α) (ze:Nat->Nat->Value->Prop) (W:World) (vs:List Value),aA (pre a)->C.Xe W->(∀b i c,ze b i c->W.cell? ⟨b,i,none⟩=some c∧c.oneCell'=true)->ao (aB ze) (R.enc a) vs->
   bx C.P C.co f vs.toArray W λe W'=>∃val z',e=.returned val∧Gr W W'∧(∀b i c,z' b i c->(ze b i c∨W.heap.size<=b)∧W'.cell? ⟨b,i,none⟩=some c∧c.oneCell'=true)∧den (aB z') (out a) val):UW C where
 f:=f
 en:=en
 ns:=hns
 run:=λargs=>match fK R.nD args with|some l=>some (obO (l++pre (R.dec args)),out (R.dec args))|none=>none
 fresh:=false
 own:=none
 ok:=by intro ze W args vs ob o hG hz hd hr ho;split at hr;rename_i l hl;obtain⟨rfl,rfl⟩:=P' (Oi hr);obtain⟨c1,c2⟩:=b7 (wm ho);refine(h (R.dec args) ze W vs c2 hG hz ?_).mono (λe W' ⟨val,z',h1,h2,h3,h4⟩=>⟨val,z',h1,h2,h3,h4,(λc=>by cases c),λt c=>by cases c⟩);rw[R.ok];exact cL _ _ _ (gl _ _ l hl c1) hd;cases hr
def ae{α:Type}(f:FuncId)(en:∀(args:Array Value) (w:World),(callFunc f args).run C.P w=.ok (.enter f args) w)(R:ZM α)(pre:α->List Prop)(out:α->SV)(h:α->X1)(fl:List Nat)(XW:∀a,(h a).fl=fl)(hm:C.P.follows .mixedOrders=true){fn:Func}
  (hf:C.P.funcs[f]? = some fn) (hB:gG fl fn=true) (he:∀a,aA (pre a)->aH Γ Fs d (h a) fn (R.enc a) λv H _=>af (out a) H v):UW C:=
 qx f en (dC hf hB) R pre out λa ze W vs hp hG hz hd=>oQ (h a) hm hf (by rw[XW];exact hB) hG hz hd (he a hp)
def P8{α:Type}(f:FuncId)(en:∀(args:Array Value) (w:World),(callFunc f args).run C.P w=.ok (.enter f args) w)(hns:∀args:Array Value,NS C.P (callFunc f args))(R:ZM α)(pre:α->List Prop)(out:α->SV)
  (h:∀(a:α) (ze:Nat->Nat->Value->Prop) (W:World) (vs:List Value),aA (pre a)->C.Xe W->(∀b i c,ze b i c->W.cell? ⟨b,i,none⟩=some c∧c.oneCell'=true)->ao (aB ze) (R.enc a) vs->
   bx C.P C.co f vs.toArray W λe W'=>∃val z',e=.returned val∧Gr W W'∧(∀b i c,z' b i c->(ze b i c∨W.heap.size<=b)∧W'.cell? ⟨b,i,none⟩=some c∧c.oneCell'=true)∧den (aB z') (out a) val∧∀b i c,z' b i c->W.heap.size<=b):UW C where
 f:=f
 en:=en
 ns:=hns
 run:=λargs=>match fK R.nD args with|some l=>some (obO (l++pre (R.dec args)),out (R.dec args))|none=>none
 fresh:=true
 own:=none
 ok:=by intro ze W args vs ob o hG hz hd hr ho;split at hr;rename_i l hl;obtain⟨rfl,rfl⟩:=P' (Oi hr);obtain⟨c1,c2⟩:=b7 (wm ho);refine(h (R.dec args) ze W vs c2 hG hz ?_).mono (λe W' ⟨val,z',h1,h2,h3,h4,h5⟩=>⟨val,z',h1,h2,h3,h4,(λ_=>h5),λt c=>by cases c⟩);rw[R.ok];exact cL _ _ _ (gl _ _ l hl c1) hd;cases hr
def jT{α:Type}(f:FuncId)(en:∀(args:Array Value) (w:World),(callFunc f args).run C.P w=.ok (.enter f args) w)(R:ZM α)(pre:α->List Prop)(out:α->SV)(h:α->X1)(fl:List Nat)(XW:∀a,(h a).fl=fl)(hm:C.P.follows .mixedOrders=true){fn:Func}
  (hf:C.P.funcs[f]? = some fn) (hB:gG fl fn=true) (he:∀a,aA (pre a)->aH Γ Fs d (h a) fn (R.enc a) λv H _=>fY (out a) H v):UW C:=
 P8 f en (dC hf hB) R pre out λa ze W vs hp hG hz hd=>Gl (h a) hm hf (by rw[XW];exact hB) hG hz hd (he a hp)
def ri(Zy no:Nat)(fo:Nat->List SV)(t0:TypeId)(H:bc)(v:SV):Prop:=match v with
 | .e=>no=0
 | .v (.slice _ 0 0)=>no=0
 | .g m e sz off n=>match off with
  | 0=>match look H m with
   | some (.lst e' Vi _ f t)=>e=e'∧Vi=Zy∧t=t0∧no=n∧∀i,i<n->gX (fo i)=true∧fo i=f i
   | _=>False
  | _=>False
 | _=>False
def Bq(out:SV)(t0:TypeId)(H:bc)(v:SV):Prop:=match out with
 | .rs Zy no fo=>ri Zy no fo t0 H v
 | .agg [x,.rs Zy no fo]=>match v with
  | .agg [x',v']=>tc x=true∧x=x'∧ri Zy no fo t0 H v'
  | _=>False
 | _=>False
def qY(out:SV)(t0:TypeId)(H:bc)(v:SV):Prop:=fY out H v∧Bq out t0 H v
theorem ss{ze:Nat->Nat->Value->Prop}{W W':World}{v:SV}{Zy no:Nat}{fo:Nat->List SV}{t0:TypeId}{val:Value}{H':bc}{VE:Nat}{US:Names}(hk:ri Zy no fo t0 H' v)(Vr:Mem C W (aB ze).VK VE US W')(VW:∀n sb,look H' n=some sb->c8 US W' n sb){zz:Nat->Nat->Value->Prop}(VS:den US v val):GU zz W W' val Zy no fo t0:=by
 have X7:∀b,¬jq (aB ze).VK b:=λb ho=>by
  rcases ho with ⟨n,ho⟩|ho
  ·rcases ho with ho|⟨e,l,o,h1,-⟩|⟨i,l,o,h1,-⟩
   cases ho;cases h1;cases h1
  exact ho
 unfold ri at hk;split at hk;obtain⟨a,rfl⟩:=VS;subst hk;exact⟨a,0,λ_ _ _=>False,λ_ _ _ h=>h.elim,rfl,I' _,λh=>Uw rfl h⟩;rename_i a;obtain rfl:val=.slice a 0 0:=VS;subst hk;exact⟨a,0,λ_ _ _=>False,λ_ _ _ h=>h.elim,rfl,I' _,λh=>Uw rfl h⟩;rename_i m e sz off n;split at hk;split at hk;rename_i e' Vi N f t hl;obtain⟨rfl,rfl,rfl,rfl,hf⟩:=hk;obtain⟨l,h1,h2,h3,h4,h5⟩:=VW _ _ hl;obtain⟨l',k1,k2,k3,k4,a',rfl,k6⟩:=VS;obtain rfl:l=l':=(by rw[h1] at k1;exact Oi k1);refine⟨a',l.cap,λ_ _ _=>False,λ_ _ _ h=>h.elim,by simp,by omega,λhc=>?_⟩;obtain⟨b,u,q1,q2,q3,q4,q5,q6⟩:=h5 hc;obtain⟨b',p1,p2⟩:=k6 (by simpa using hc);obtain rfl:b=b':=(by rw[q1] at p1;injection p1 with p1;injection p1);refine⟨b,u,by rw[p2];simp,?_,q2,q3,q4,λ_ _ h=>h,λi hi=>?_⟩;rcases Vr.old m b (.inr (.inl ⟨e,l,0,h1,h2,hc,q1⟩)) with h|h;exact Uw h (X7 b);exact h;obtain⟨us,r1,r2,r3⟩:=q6 i (by omega);obtain⟨s1,s2⟩:=hf i hi;refine⟨us,?_,r2,r3⟩;rw[<-s2] at r1;exact eR _ _ s1 r1;exact hk.elim;exact hk.elim;exact hk.elim
theorem Fb{ze:Nat->Nat->Value->Prop}{W W':World}{out v:SV}{t0:TypeId}{val:Value}{H':bc}{VE:Nat}{US:Names}(hk:Bq out t0 H' v)(Vr:Mem C W (aB ze).VK VE US W')(VW:∀n sb,look H' n=some sb->c8 US W' n sb){zz:Nat->Nat->Value->Prop}(VS:den US v val):Lj zz W W' val t0 out:=by unfold Bq at hk;split at hk;exact ss hk Vr VW VS;split at hk;obtain⟨h1,rfl,h2⟩:=hk;obtain⟨us,⟨u,w,rfl,d1,v,w2,rfl,d2,rfl⟩,rfl⟩:=VS;exact⟨u,v,rfl,lX _ _ h1 d1,ss h2 Vr VW d2⟩;exact hk.elim;exact hk.elim
theorem Gk{f:FuncId}{fn:Func}{args:List SV}{vs:List Value}{ze:Nat->Nat->Value->Prop}{W:World}{out:SV}{t0:TypeId}(h:X1)(hm:C.P.follows .mixedOrders=true)
  (hf:C.P.funcs[f]? = some fn) (hB:gG h.fl fn=true) (hG:C.Xe W) (hz:∀b i c,ze b i c->W.cell? ⟨b,i,none⟩=some c∧c.oneCell'=true) (Vh:ao (aB ze) args vs)
  (he:aH Γ Fs d h fn args λv H _=>qY out t0 H v) :
  bx C.P C.co f vs.toArray W λe W'=>∃val z',e=.returned val∧Gr W W'∧(∀b i c,z' b i c->(ze b i c∨W.heap.size<=b)∧W'.cell? ⟨b,i,none⟩=some c∧c.oneCell'=true)∧den (aB z') out val∧(∀b i c,z' b i c->W.heap.size<=b)∧Lj z' W W' val t0 out:=by
 unfold aH at he;split at he
 rotate_left
 exact he.elim;rename_i code hb hn;have hB:eB h.fl code=true:=by unfold gG at hB;rw[hb] at hB;exact hB
 refine(iy h (cA hm d) hm hf hb hn hB (gv hG hz) (λn b h=>by cases h) (λe l h=>by cases h) (λm i l h=>by cases h) Vh _ he).mono ?_;rintro e W' ⟨v,val,H',VE,US,rfl,⟨hk,hko⟩,Vr,VW,VS⟩;obtain⟨Zx,z',e1,h2,h3,h4,h5⟩:=DW hk Vr VW VS;obtain rfl:val=Zx:=by injection e1
 exact⟨val,z',rfl,h2,h3,h4,h5,Fb hko Vr VW VS⟩
def wb(Zy no:Nat)(fo:Nat->List SV)(t0:TypeId)(H:bc)(v:SV):Prop:=match v with
 | .e=>no=0
 | .v (.slice _ 0 0)=>no=0
 | .g m e sz off n=>match off with
  | 0=>match look H m with
   | some (.lst e' Vi _ f t)=>e=e'∧Vi=Zy∧t=t0∧no=n∧∀i,i<n->fo i=f i
   | _=>False
  | _=>False
 | _=>False
theorem Bp{ze:Nat->Nat->Value->Prop}{W W':World}{v:SV}{Zy no:Nat}{fo:Nat->List SV}{t0:TypeId}{val:Value}{H':bc}{VE:Nat}{US:Names}(hk:wb Zy no fo t0 H' v)(Vr:Mem C W (aB ze).VK VE US W')(VW:∀n sb,look H' n=some sb->c8 US W' n sb)(VS:den US v val):GU (zR US W').z W W' val Zy no fo t0:=by
 have X7:∀b,¬jq (aB ze).VK b:=λb ho=>by
  rcases ho with ⟨n,ho⟩|ho
  ·rcases ho with ho|⟨e,l,o,h1,-⟩|⟨i,l,o,h1,-⟩
   cases ho;cases h1;cases h1
  exact ho
 have hz0:∀b i c,US.z b i c->(zR US W').z b i c:=λb i c h=>⟨(Vr.hb.zok b i c h).1,(Vr.hb.zok b i c h).2,.inl h⟩
 unfold wb at hk;split at hk;obtain⟨a,rfl⟩:=VS;subst hk;exact⟨a,0,λ_ _ _=>False,λ_ _ _ h=>h.elim,rfl,I' _,λh=>Uw rfl h⟩;rename_i a;obtain rfl:val=.slice a 0 0:=VS;subst hk;exact⟨a,0,λ_ _ _=>False,λ_ _ _ h=>h.elim,rfl,I' _,λh=>Uw rfl h⟩;rename_i m e sz off n;split at hk;split at hk;rename_i e' Vi N f t hl;obtain⟨rfl,rfl,rfl,rfl,hf⟩:=hk;obtain⟨l,h1,h2,h3,h4,h5⟩:=VW _ _ hl;obtain⟨l',k1,k2,k3,k4,a',rfl,k6⟩:=VS;obtain rfl:l=l':=(by rw[h1] at k1;exact Oi k1);refine⟨a',l.cap,US.z,hz0,by simp,by omega,λhc=>?_⟩;obtain⟨b,u,q1,q2,q3,q4,q5,q6⟩:=h5 hc;obtain⟨b',p1,p2⟩:=k6 (by simpa using hc);obtain rfl:b=b':=(by rw[q1] at p1;injection p1 with p1;injection p1);refine⟨b,u,by rw[p2];simp,?_,q2,q3,q4,q5,λi hi=>?_⟩;rcases Vr.old m b (.inr (.inl ⟨e,l,0,h1,h2,hc,q1⟩)) with h|h;exact Uw h (X7 b);exact h;obtain⟨us,r1,r2,r3⟩:=q6 i (by omega);exact⟨us,by rw[hf i hi];exact r1,r2,r3⟩;exact hk.elim;exact hk.elim;exact hk.elim
def P7{α:Type}(f:FuncId)(en:∀(args:Array Value) (w:World),(callFunc f args).run C.P w=.ok (.enter f args) w)(hns:∀args:Array Value,NS C.P (callFunc f args))(R:ZM α)(pre:α->List Prop)(out:α->SV)(t0:TypeId)
  (h:∀(a:α) (ze:Nat->Nat->Value->Prop) (W:World) (vs:List Value),aA (pre a)->C.Xe W->(∀b i c,ze b i c->W.cell? ⟨b,i,none⟩=some c∧c.oneCell'=true)->ao (aB ze) (R.enc a) vs->
   bx C.P C.co f vs.toArray W λe W'=>∃val z',e=.returned val∧Gr W W'∧(∀b i c,z' b i c->(ze b i c∨W.heap.size<=b)∧W'.cell? ⟨b,i,none⟩=some c∧c.oneCell'=true)∧den (aB z') (out a) val∧(∀b i c,z' b i c->W.heap.size<=b)∧Lj z' W W' val t0 (out a)):UW C where
 f:=f
 en:=en
 ns:=hns
 run:=λargs=>match fK R.nD args with|some l=>some (obO (l++pre (R.dec args)),out (R.dec args))|none=>none
 fresh:=true
 own:=some t0
 ok:=by intro ze W args vs ob o hG hz hd hr ho;split at hr;rename_i l hl;obtain⟨rfl,rfl⟩:=P' (Oi hr);obtain⟨c1,c2⟩:=b7 (wm ho);refine(h (R.dec args) ze W vs c2 hG hz ?_).mono (λe W' ⟨val,z',h1,h2,h3,h4,h5,h6⟩=>⟨val,z',h1,h2,h3,h4,(λ_=>h5),λt c=>by cases c;exact h6⟩);rw[R.ok];exact cL _ _ _ (gl _ _ l hl c1) hd;cases hr
def xG{α:Type}(f:FuncId)(en:∀(args:Array Value) (w:World),(callFunc f args).run C.P w=.ok (.enter f args) w)(R:ZM α)(pre:α->List Prop)(out:α->SV)(t0:TypeId)(h:α->X1)(fl:List Nat)(XW:∀a,(h a).fl=fl)(hm:C.P.follows .mixedOrders=true){fn:Func}
  (hf:C.P.funcs[f]? = some fn) (hB:gG fl fn=true) (he:∀a,aA (pre a)->aH Γ Fs d (h a) fn (R.enc a) λv H _=>qY (out a) t0 H v):UW C:=
 P7 f en (dC hf hB) R pre out t0 λa ze W vs hp hG hz hd=>Gk (h a) hm hf (by rw[XW];exact hB) hG hz hd (he a hp)
end
structure Rd (α:Type) where
 pat:SV
 dec:SV->α
 enc:α->SV
 ok:∀x,enc (dec x)=jn false pat x
def Vm(k:IntKind):Rd Int:=⟨.v (.int k 0),SV.iv,λn=>.v (.int k n),λ_=>rfl⟩
def ZA:Rd Bool:=⟨.v (.bool false),SV.bv,λn=>.v (.bool n),λ_=>rfl⟩
def Vy:Rd SV:=⟨.e,id,id,λ_=>rfl⟩
structure X2 where
 n:Nat
 g:Nat->Int
def rdF(k:IntKind):Rd X2:=⟨.rs 1 0 λ_=>[.v (.int k 0)],λx=>⟨x.rn,λi=>(VP (x.rf i)).iv⟩,λf=>.rs 1 f.n λi=>[.v (.int k (f.g i))],λ_=>rfl⟩
section
variable {α β γ δ ε:Type}
def Iq:ZM Unit:=⟨[],λ_=>(),λ_=>[],λ_=>rfl⟩
def bs(a:Rd α):ZM α:=⟨[a.pat],λxs=>a.dec (VP xs),λx=>[a.enc x],λxs=>by simp only[a.ok];rfl⟩
def aD(a:Rd α)(b:Rd β):ZM (α×β):=⟨[a.pat,b.pat],λxs=>(a.dec (VP xs),b.dec (VP (Vw xs))),λx=>[a.enc x.1,b.enc x.2],λxs=>by simp only[a.ok,b.ok];rfl⟩
def eU(a:Rd α)(b:Rd β)(c:Rd γ):ZM (α×β×γ):=⟨[a.pat,b.pat,c.pat],λxs=>(a.dec (VP xs),b.dec (VP (Vw xs)),c.dec (VP (Vw (Vw xs)))),λx=>[a.enc x.1,b.enc x.2.1,c.enc x.2.2],λxs=>by simp only[a.ok,b.ok,c.ok];rfl⟩
def ug(a:Rd α)(b:Rd β)(c:Rd γ)(d:Rd δ):ZM (α×β×γ×δ):=⟨[a.pat,b.pat,c.pat,d.pat],λxs=>(a.dec (VP xs),b.dec (VP (Vw xs)),c.dec (VP (Vw (Vw xs))),d.dec (VP (Vw (Vw (Vw xs))))),λx=>[a.enc x.1,b.enc x.2.1,c.enc x.2.2.1,d.enc x.2.2.2],λxs=>by simp only[a.ok,b.ok,c.ok,d.ok];rfl⟩
end
def ai:X1:=⟨[],[],[],0⟩
def types:List (Nat×TI):=[(1,⟨1,8,.prim,[.v .nilFunc],false⟩),
 (2,⟨1,8,.int .i64,[.il .i64 0],false⟩),
 (3,⟨1,8,.int .i64,[.il .i64 0],false⟩),
 (4,⟨1,1,.bool,[.bl false],false⟩),
 (5,⟨1,1,.int .u8,[.il .u8 0],false⟩),
 (6,⟨1,1,.int .u8,[.il .u8 0],false⟩),
 (7,⟨4,24,.struct [(0,2),(1,3),(2,4),(3,6)],[.il .i64 0,.il .i64 0,.bl false,.il .u8 0],true⟩),
 (8,⟨4,24,.struct [(0,2),(1,3),(2,4),(3,6)],[.il .i64 0,.il .i64 0,.bl false,.il .u8 0],true⟩),
 (9,⟨1,16,.prim,[.v (.string ⟨#[]⟩)],false⟩),
 (10,⟨1,16,.prim,[.v (.string ⟨#[]⟩)],false⟩),
 (11,⟨1,16,.prim,[.v (.string ⟨#[]⟩)],false⟩),
 (12,⟨1,8,.int .u64,[.il .u64 0],false⟩),
 (13,⟨2,24,.struct [(0,9),(1,12)],[.v (.string ⟨#[]⟩),.il .u64 0],false⟩),
 (14,⟨2,24,.struct [(0,9),(1,12)],[.v (.string ⟨#[]⟩),.il .u64 0],false⟩),
 (15,⟨1,8,.ptr,[.v (.pointer none)],false⟩),
 (16,⟨1,8,.ptr,[.v (.pointer none)],false⟩),
 (17,⟨1,8,.ptr,[.v (.pointer none)],false⟩),
 (18,⟨1,8,.struct [(0,17)],[.v (.pointer none)],false⟩),
 (19,⟨1,8,.struct [(0,17)],[.v (.pointer none)],false⟩),
 (20,⟨1,16,.prim,[.v .nilIface],false⟩),
 (21,⟨1,4,.int .i32,[.il .i32 0],false⟩),
 (22,⟨2,16,.struct [(0,3),(1,3)],[.il .i64 0,.il .i64 0],true⟩),
 (23,⟨2,16,.struct [(0,3),(1,3)],[.il .i64 0,.il .i64 0],true⟩),
 (24,⟨4,32,.struct [(0,23),(2,23)],[.il .i64 0,.il .i64 0,.il .i64 0,.il .i64 0],true⟩),
 (25,⟨4,32,.struct [(0,23),(2,23)],[.il .i64 0,.il .i64 0,.il .i64 0,.il .i64 0],true⟩),
 (26,⟨1,24,.sl 42,[.v (.slice none 0 0)],false⟩),
 (27,⟨2,32,.struct [(0,3),(1,26)],[.il .i64 0,.v (.slice none 0 0)],false⟩),
 (28,⟨2,32,.struct [(0,3),(1,26)],[.il .i64 0,.v (.slice none 0 0)],false⟩),
 (29,⟨1,24,.sl 116,[.v (.slice none 0 0)],false⟩),
 (30,⟨1,24,.sl 105,[.v (.slice none 0 0)],false⟩),
 (31,⟨1,8,.int .u64,[.il .u64 0],false⟩),
 (33,⟨4,64,.struct [(0,29),(1,30),(2,31),(3,3)],[.v (.slice none 0 0),.v (.slice none 0 0),.il .u64 0,.il .i64 0],false⟩),
 (34,⟨1,24,.sl 94,[.v (.slice none 0 0)],false⟩),
 (36,⟨13,168,.struct [(0,25),(4,28),(6,33),(10,34),(11,23)],[.il .i64 0,.il .i64 0,.il .i64 0,.il .i64 0,.il .i64 0,.v (.slice none 0 0),.v (.slice none 0 0),.v (.slice none 0 0),.il .u64 0,.il .i64 0,.v (.slice none 0 0),.il .i64 0,.il .i64 0],false⟩),
 (40,⟨1,24,.sl 46,[.v (.slice none 0 0)],false⟩),
 (42,⟨2,32,.struct [(0,3),(1,40)],[.il .i64 0,.v (.slice none 0 0)],false⟩),
 (43,⟨1,8,.ptr,[.v (.pointer none)],false⟩),
 (44,⟨4,32,.arr 4 3,[.il .i64 0,.il .i64 0,.il .i64 0,.il .i64 0],true⟩),
 (46,⟨5,40,.struct [(0,5),(1,44)],[.il .u8 0,.il .i64 0,.il .i64 0,.il .i64 0,.il .i64 0],true⟩),
 (47,⟨1,24,.sl 121,[.v (.slice none 0 0)],false⟩),
 (48,⟨1,24,.sl 123,[.v (.slice none 0 0)],false⟩),
 (49,⟨1,24,.sl 3,[.v (.slice none 0 0)],false⟩),
 (51,⟨3,72,.struct [(0,47),(1,48),(2,49)],[.v (.slice none 0 0),.v (.slice none 0 0),.v (.slice none 0 0)],false⟩),
 (52,⟨1,8,.int .i64,[.il .i64 0],false⟩),
 (57,⟨1,24,.sl 74,[.v (.slice none 0 0)],false⟩),
 (59,⟨1,4,.int .u32,[.il .u32 0],false⟩),
 (74,⟨10,80,.struct [(0,3),(1,3),(2,3),(3,23),(5,4),(6,23),(8,3),(9,3)],[.il .i64 0,.il .i64 0,.il .i64 0,.il .i64 0,.il .i64 0,.bl false,.il .i64 0,.il .i64 0,.il .i64 0,.il .i64 0],true⟩),
 (94,⟨3,24,.struct [(0,3),(1,3),(2,3)],[.il .i64 0,.il .i64 0,.il .i64 0],true⟩),
 (99,⟨1,8,.prim,[.v .nilFunc],false⟩),
 (103,⟨1,24,.sl 153,[.v (.slice none 0 0)],false⟩),
 (105,⟨4,40,.struct [(0,103),(1,3),(2,59),(3,59)],[.v (.slice none 0 0),.il .i64 0,.il .u32 0,.il .u32 0],false⟩),
 (110,⟨1,24,.sl 1,[.v (.slice none 0 0)],false⟩),
 (113,⟨1,8,.prim,[.v .nilFunc],false⟩),
 (116,⟨4,32,.struct [(0,9),(1,59),(2,59),(3,3)],[.v (.string ⟨#[]⟩),.il .u32 0,.il .u32 0,.il .i64 0],false⟩),
 (119,⟨2,16,.struct [(0,3),(1,3)],[.il .i64 0,.il .i64 0],true⟩),
 (121,⟨3,24,.struct [(0,119),(2,52)],[.il .i64 0,.il .i64 0,.il .i64 0],true⟩),
 (123,⟨3,24,.struct [(0,3),(1,5),(2,3)],[.il .i64 0,.il .u8 0,.il .i64 0],true⟩),
 (128,⟨1,8,.prim,[.v .nilFunc],false⟩),
 (130,⟨1,8,.prim,[.v .nilFunc],false⟩),
 (131,⟨1,8,.mp 3 3,[.v (.map none)],false⟩),
 (135,⟨1,8,.prim,[.v .nilFunc],false⟩),
 (137,⟨1,8,.prim,[.v .nilFunc],false⟩),
 (153,⟨2,16,.struct [(0,5),(1,3)],[.il .u8 0,.il .i64 0],true⟩),
 (159,⟨1,24,.sl 209,[.v (.slice none 0 0)],false⟩),
 (161,⟨4,64,.struct [(0,159),(1,34),(2,23)],[.v (.slice none 0 0),.v (.slice none 0 0),.il .i64 0,.il .i64 0],false⟩),
 (177,⟨1,8,.prim,[.v .nilFunc],false⟩),
 (189,⟨1,24,.sl 47,[.v (.slice none 0 0)],false⟩),
 (198,⟨2,16,.struct [(0,192),(0,196),(1,59)],[.il .u64 0,.il .u32 0],true⟩),
 (205,⟨1,8,.prim,[.v .nilFunc],false⟩),
 (209,⟨9,64,.struct [(0,3),(1,23),(3,23),(5,3),(6,3),(7,4),(8,4)],[.il .i64 0,.il .i64 0,.il .i64 0,.il .i64 0,.il .i64 0,.il .i64 0,.il .i64 0,.bl false,.bl false],true⟩),
 (211,⟨1,8,.ptr,[.v (.pointer none)],false⟩),
 (212,⟨2,16,.arr 2 211,[.v (.pointer none),.v (.pointer none)],false⟩),
 (214,⟨1,8,.ptr,[.v (.pointer none)],false⟩),
 (216,⟨15,144,.struct [(0,161),(4,209),(13,3),(14,3)],[.v (.slice none 0 0),.v (.slice none 0 0),.il .i64 0,.il .i64 0,.il .i64 0,.il .i64 0,.il .i64 0,.il .i64 0,.il .i64 0,.il .i64 0,.il .i64 0,.bl false,.bl false,.il .i64 0,.il .i64 0],false⟩),
 (220,⟨2,2,.arr 2 5,[.il .u8 0,.il .u8 0],true⟩),
 (224,⟨1,8,.prim,[.v .nilFunc],false⟩),
 (227,⟨1,8,.mp 9 3,[.v (.map none)],false⟩),
 (240,⟨1,8,.int .u64,[.il .u64 0],false⟩),
 (243,⟨2,16,.struct [(0,31),(1,31)],[.il .u64 0,.il .u64 0],true⟩),
 (245,⟨3,24,.struct [(0,243),(2,4)],[.il .u64 0,.il .u64 0,.bl false],true⟩),
 (254,⟨2,16,.struct [(0,3),(1,3)],[.il .i64 0,.il .i64 0],true⟩),
 (255,⟨8,64,.arr 4 254,[.il .i64 0,.il .i64 0,.il .i64 0,.il .i64 0,.il .i64 0,.il .i64 0,.il .i64 0,.il .i64 0],true⟩),
 (256,⟨88,704,.arr 11 255,[.il .i64 0,.il .i64 0,.il .i64 0,.il .i64 0,.il .i64 0,.il .i64 0,.il .i64 0,.il .i64 0,.il .i64 0,.il .i64 0,.il .i64 0,.il .i64 0,.il .i64 0,.il .i64 0,.il .i64 0,.il .i64 0,.il .i64 0,.il .i64 0,.il .i64 0,.il .i64 0,.il .i64 0,.il .i64 0,.il .i64 0,.il .i64 0,.il .i64 0,.il .i64 0,.il .i64 0,.il .i64 0,.il .i64 0,.il .i64 0,.il .i64 0,.il .i64 0,.il .i64 0,.il .i64 0,.il .i64 0,.il .i64 0,.il .i64 0,.il .i64 0,.il .i64 0,.il .i64 0,.il .i64 0,.il .i64 0,.il .i64 0,.il .i64 0,.il .i64 0,.il .i64 0,.il .i64 0,.il .i64 0,.il .i64 0,.il .i64 0,.il .i64 0,.il .i64 0,.il .i64 0,.il .i64 0,.il .i64 0,.il .i64 0,.il .i64 0,.il .i64 0,.il .i64 0,.il .i64 0,.il .i64 0,.il .i64 0,.il .i64 0,.il .i64 0,.il .i64 0,.il .i64 0,.il .i64 0,.il .i64 0,.il .i64 0,.il .i64 0,.il .i64 0,.il .i64 0,.il .i64 0,.il .i64 0,.il .i64 0,.il .i64 0,.il .i64 0,.il .i64 0,.il .i64 0,.il .i64 0,.il .i64 0,.il .i64 0,.il .i64 0,.il .i64 0,.il .i64 0,.il .i64 0,.il .i64 0,.il .i64 0],true⟩),
 (260,⟨1,8,.ptr,[.v (.pointer none)],false⟩),
 (284,⟨1,8,.prim,[.v .nilFunc],false⟩),
 (287,⟨1,8,.prim,[.v .nilFunc],false⟩),
 (292,⟨1,8,.prim,[.v .nilFunc],false⟩),
 (294,⟨1,8,.prim,[.v .nilFunc],false⟩),
 (307,⟨1,24,.sl 245,[.v (.slice none 0 0)],false⟩),
 (325,⟨1,8,.int .i64,[.il .i64 0],false⟩),
 (335,⟨1,8,.prim,[.v .nilFunc],false⟩),
 (363,⟨1,8,.prim,[.v .nilFunc],false⟩),
 (364,⟨2,16,.arr 2 363,[.v .nilFunc,.v .nilFunc],false⟩),
 (365,⟨4,32,.arr 2 364,[.v .nilFunc,.v .nilFunc,.v .nilFunc,.v .nilFunc],false⟩)]
set_option maxRecDepth 100000 in
theorem xJ:types.all (Ou Tryz.prog)=true:=by kernel_rfl
def ground:List (Nat×(List SV×TypeId)):=[(0,([.il .i64 0,.il .i64 0,.il .i64 0,.il .i64 0,.il .i64 0,.il .i64 0,.il .i64 0,.il .i64 0,.il .i64 (-1048576),.il .i64 1048576,.il .i64 (-1048576),.il .i64 1048576,.il .i64 0,.il .i64 0,.il .i64 0,.il .i64 0,.il .i64 (-4096),.il .i64 4096,.il .i64 (-4096),.il .i64 4096,.il .i64 0,.il .i64 0,.il .i64 0,.il .i64 0,.il .i64 1,.il .i64 16384,.il .i64 1,.il .i64 16384,.il .i64 0,.il .i64 1,.il .i64 0,.il .i64 1,.il .i64 1,.il .i64 8,.il .i64 0,.il .i64 0,.il .i64 0,.il .i64 0,.il .i64 0,.il .i64 0,.il .i64 0,.il .i64 510,.il .i64 0,.il .i64 0,.il .i64 0,.il .i64 0,.il .i64 0,.il .i64 0,.il .i64 0,.il .i64 15,.il .i64 0,.il .i64 0,.il .i64 0,.il .i64 0,.il .i64 0,.il .i64 0,.il .i64 (-2147483648),.il .i64 2147483647,.il .i64 (-2147483648),.il .i64 2147483647,.il .i64 (-2147483648),.il .i64 2147483647,.il .i64 (-2147483648),.il .i64 2147483647,.il .i64 0,.il .i64 1048576,.il .i64 0,.il .i64 1048576,.il .i64 0,.il .i64 0,.il .i64 0,.il .i64 0,.il .i64 0,.il .i64 2147483647,.il .i64 0,.il .i64 2147483647,.il .i64 0,.il .i64 2147483647,.il .i64 0,.il .i64 2147483647,.il .i64 (-2147483648),.il .i64 2147483647,.il .i64 (-2147483648),.il .i64 2147483647,.il .i64 (-2147483648),.il .i64 2147483647,.il .i64 (-2147483648),.il .i64 2147483647],256)),(1,([.v (.func (.func 302) #[] #[]),.v (.func (.func 303) #[] #[]),.v (.func (.func 304) #[] #[]),.v (.func (.func 305) #[] #[])],365))]
def cx:Cx Tryz.prog:={T:=types,G:=ground,gm:=2,hT:=xJ}
end Go.Proofs.YtgigkennhdolpaaGreatDoor
