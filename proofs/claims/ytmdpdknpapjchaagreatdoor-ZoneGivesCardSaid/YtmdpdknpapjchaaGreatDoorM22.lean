/- A symbolic executor with lists. -/
import Derived.Test.YtmdpdknpapjchaaGreatDoorM21
set_option linter.all false
namespace Go.Proofs.YtmdpdknpapjchaaGreatDoor
open Go.RowKit
variable {a:Act}{fn:Func}{f:FuncId}{args:List SV}{vs:List Value}{XM ρ:Names}{Yl no nt szo:Nat}{ze:Nat->Nat->Value->Prop}{P PP:Program}{out v:SV}{st:St}{α:Type}{t0:TypeId}{val:Value}{W':World}{H H':aU}{C:Cx PP}
def Sc(C:Cx PP)(st:St):ResultVar->Option SV
 | .tmp t=>rl st.sl (.tmp t)
 | .cell x t=>match rl st.sl (.tmp x) with
  | some (.p n off)=>EV C st.H (.p n off) t
  | _=>none
def Oa{PP:Program}(C:Cx PP)(st:St):List ResultVar->Option (List SV)
 | []=>some []
 | x::r=>match Sc C st x,Oa C st r with|some v,some l=>some (v::l)|_,_=>none
def qy(C:Cx PP)(rs:List ResultVar)(st:St)(K:SV->Prop):Prop:=
 match Oa C st rs with
 | none=>False
 | some [v]=>K v
 | some l=>K (.tup l)
section
variable {Γ:List (XR C)}{w0:World}{XN:Names}{I:Inl}{inls:List Nat}
theorem zD{W:World}{t:TypeId}{x:Operand}{v:Value}{dst:Option Tmp}{ty:TypeId}{pos:String}{after:Array Edge}{guard:Option (Nat×Bool)}{p:Addr}(hx:a.eval x=.pointer (some p))(h:(execOp a.eval ⟨dst,.load t x,ty,pos,after,guard⟩).run P W=.ok (.value v) W):(loadVar t p).run P W=.ok v W:=by
 simp only[execOp,hx,Instr.loadAt,Instr.sureAddr,Xz,Xy,Xx] at h;cases hr:(loadVar t p).run P W with
 | ok u W'=>
  rw[hr] at h;simp only[Xx] at h;injection h with h1 h2;injection h1 with h1;rw[h1,h2]
 | halt x W'=>rw[hr] at h;cases h
def tx(tmps:Array Value):ResultVar->Sem Value
 | .tmp t=>pure (tmps.getD t undef)
 | .cell a t=>do loadVar t (<-asAddr (tmps.getD a undef))
theorem Oc{W:World}(h:Rp C nt w0 XN st ρ a W){x:ResultVar}(e:Sc C st x=some v) :
  ∃u,den ρ v u∧(tx a.tmps x).run C.P W=.ok u W:=by
 cases x with
 | tmp t=>exact⟨_,gF (x:=.tmp t) h e,rfl⟩
 | cell b t=>
  simp only[Sc] at e;split at e;rename_i n off hb;have hx:=gF h hb;obtain⟨u,k1,k2⟩:=Ah (dst:=none) (ty:=0) (pos:= "") (after:=#[]) (guard:=none) (y:=.tmp b) h.base.X' e hx;obtain⟨m,hm,e2⟩:=hx;refine⟨u,k1,?_⟩;have e3:a.tmps.getD b undef=.pointer (some ⟨m,off,none⟩):=e2;simp only[tx,e3,asAddr,Xz,Xy,Xx];exact zD e2 k2;cases e
theorem xH{st:St}{ρ:Names}{a:Act}{W:World}(h:Rp C nt w0 XN st ρ a W):∀{rs:List ResultVar} {l:List SV},Oa C st rs=some l->
  ∃us,au ρ l us∧(rs.mapM (tx a.tmps)).run C.P W=.ok us W
 | [],l,e=>by obtain rfl:=Oi e;exact⟨[],rfl,rfl⟩
 | x::r,l,e=>by simp only[Oa] at e;split at e;rename_i v m hv hm;obtain rfl:=Oi e;obtain⟨u,k1,k2⟩:=Oc h hv;obtain⟨us,k3,k4⟩:=xH h hm;refine⟨u::us,aN k1 k3,?_⟩;rw[List.mapM_cons];simp only[Xz,k2,Xx,k4,Xy];cases e
theorem qW{W:World}{us:List Value}(h:(fn.results.toList.mapM (tx a.tmps)).run P W=.ok us W) :
  (results fn a.tmps).run P W=.ok (if h:us.toArray.size=1 then us.toArray[0] else .tuple us.toArray) W:=by
 have e:results fn a.tmps=(fn.results.mapM (tx a.tmps) >>= λvs=>pure (if h:vs.size=1 then vs[0] else .tuple vs)):=rfl;rw[e,Array.mapM_eq_mapM_toList];simp only[Xz,Sem.run_map,h,Xx,Xy]
def bw:Nat->List SV->List (Nat×Slot)
 | _,[]=>[]
 | k,v::r=>(k,⟨0,0,[],v⟩)::bw (k+1) r
theorem di:∀{l:List SV} {k t:Nat} {s:Slot},look (bw k l) t=some s->∃i v,t=k+i∧l[i]? = some v∧s=⟨0,0,[],v⟩
 | [],k,t,s,h=>by cases h
 | v::r,k,t,s,h=>by by_cases e:k=t;subst e;simp only[bw] at h;rw[ai] at h;exact⟨0,v,rfl,rfl,(Oi h).symm⟩;simp only[bw] at h;rw[ah _ _ e] at h;obtain⟨i,u,h1,h2,h3⟩:=di h;exact⟨i+1,u,by omega,by simpa using h2,h3⟩
def rT(C:Cx PP)(rs:List ResultVar)(K:SV->aU->Nat->Prop):Ex->St->Prop
 | .exit _,_=>False
 | .normal,st=>qy C rs st λv=>K v st.H st.nm
 | .ret,st=>qy C rs st λv=>K v st.H st.nm
theorem Dg{rs:Array ResultVar}(hrs:fn.results=rs){a':Act}{K:SV->aU->Nat->Prop}(hr:Rp C nt w0 XN st ρ a' W')(hk:qy C rs.toList st (λv=>K v st.H st.nm)) :
  ∃v,(results fn a'.tmps).run C.P W'=.ok v W'∧∃v' H' Yl,K v' H' Yl∧Mem C w0 XN Yl ρ W'∧(∀n sb,look H' n=some sb->cS ρ W' n sb)∧den ρ v' v:=by
 subst hrs;unfold qy at hk;split at hk;exact hk.elim;rename_i v hl;obtain⟨us,k1,k2⟩:=xH hr hl;obtain⟨u,us',rfl,k3,k4⟩:=aF k1;obtain rfl:=bX k4;exact⟨u,qW k2,v,st.H,st.nm,hk,hr.base.mem,hr.base.blk,k3⟩;rename_i l XW hl;obtain⟨us,k1,k2⟩:=xH hr hl;have hne':¬us.toArray.size=1:=by
  intro e;have hlen:=aB k1;have:l.length=1:=by rw[<-hlen];simpa using e
  match l,this with
  | [v],_=>exact XW v rfl
 exact⟨.tuple us.toArray,by rw[qW k2,dif_neg hne'],.tup l,st.H,st.nm,hk,hr.base.mem,hr.base.blk,us,k1,rfl⟩
theorem gM{code:Code}{nm:Nat}(h:How)(hI:eT C I)(hm:C.P.follows .mixedOrders=true)(hf:C.P.funcs[f]? = some fn)(hb:fn.body=some code)(hn:Nat.ble args.length fn.ntmps=true)(hB:dL h.fl code=true)(hH:YH C H XN w0)(X5:∀n b,XN.n n=some b->n<nm)(XP:∀e l,XN.v e=some l->e<nm∧l.o<nm)(XQ:∀m i l,XN.k m i=some l->m<nm)(XY:au XN args vs)(K:SV->aU->Nat->Prop)(he:ev Γ fn.ntmps nm I inls h code ⟨bw 0 args,H,nm,0,[],[]⟩ (rT C fn.results.toList K)) :
  bj C.P C.co f vs.toArray w0 λe W'=>∃v val H' Yl XM,e=.returned val∧K v H' Yl∧Mem C w0 XN.YE Yl XM W'∧(∀n sb,look H' n=some sb->cS XM W' n sb)∧den XM v val:=by
 have hlen:=aB XY;have hn:=F4 hn;refine pC hf hb ?_;have hrp:Rp C fn.ntmps w0 XN.YE ⟨bw 0 args,H,nm,0,[],[]⟩ XN {tmps:=vs.toArray++Array.replicate (fn.ntmps-vs.toArray.size) undef,defers:=[]} w0:=by refine⟨⟨Mem.refl hH.hb X5 XP XQ,hH.blk,by simp;omega,rfl⟩,λt s hs=>?_,λt s hs hg=>?_⟩;obtain⟨i,v,-,-,rfl⟩:=di hs;exact F2 _;obtain⟨i,v,rfl,hv,rfl⟩:=di hs;obtain⟨u,h1,h2⟩:=eu XY hv;refine⟨u,h2,?_⟩;have hl:i<vs.length:=(F3.1 h1).1;rw[B',Array.getElem?_append_left (by simpa using hl)];simpa using h1
 refine I0 (AV (XN:=XN.YE) hI hm X5 XP XQ code _ _ hB he _ _ _ hrp) ?_;rintro e a' W' ⟨x,st,ρ,rfl,hk,hr⟩;have key:qy C fn.results.toList st (λv=>K v st.H st.nm)->a'.defers=[]∧∃v,(results fn a'.tmps).run C.P W'=.ok v W'∧∃v' val H' Yl XM,Ending.returned v=.returned val∧K v' H' Yl∧Mem C w0 XN.YE Yl XM W'∧(∀n sb,look H' n=some sb->cS XM W' n sb)∧den XM v' val:=by intro hk;obtain⟨v,h1,v',H',Yl,h2,h3,h4,h5⟩:=Dg rfl hr hk;exact⟨hr.base.df,v,h1,v',v,H',Yl,ρ,rfl,h2,h3,h4,h5⟩
 cases x with
 | normal=>exact key hk
 | exit i=>exact hk.elim
 | ret=>exact key hk
end
def gq(fl:List Nat)(fn:Func):Bool:=match fn.body with|some c=>dL fl c|none=>false
theorem de{fl:List Nat}(hf:P.funcs[f]? = some fn)(hB:gq fl fn=true)(args:Array Value):NS P (callFunc f args):=jL hf (by unfold gq at hB;cases h:fn.body with|none=>rw[h] at hB;cases hB|some c=>rfl) args
structure Y0 {PP:Program} (C:Cx PP) where
 f:FuncId
 en:∀(args:Array Value) (w:World),(callFunc f args).run C.P w=.ok (.enter f args) w
 fn:Func
 hf:C.P.funcs[f]? = some fn
 fl:List Nat
 cuts:List Nat
 invs:List Nat
 fu:Nat
 hB:gq fl fn=true
def AJ{PP:Program}{C:Cx PP} : List (Y0 C)->Nat->Option (Y0 C)
 | [],_=>none
 | c::r,n=>match Nat.beq c.f n with|true=>some c|false=>AJ r n
theorem Fp{PP:Program}{C:Cx PP} : ∀{l:List (Y0 C)} {n:Nat} {c:Y0 C},AJ l n=some c->c.f=n
 | [],_,_,h=>by simp[AJ] at h
 | d::r,n,c,h=>by simp only[AJ] at h;split at h;rename_i hb;obtain rfl:=Oi h;exact Nb hb;exact Fp h
def cd{PP:Program}{C:Cx PP} : List (Y0 C)->List Nat
 | []=>[]
 | c::r=>c.f::cd r
def jB{PP:Program}{C:Cx PP}(Γ:List (XR C))(Fs:List (Y0 C)):Nat->Inl
 | 0=>λ_ _ _ _ _=>False
 | d+1=>λf args H nm K=>match AJ Fs f with
  | none=>False
  | some c=>match c.fn.body,Nat.ble args.length c.fn.ntmps with
   | some code,true=>ev Γ c.fn.ntmps nm (jB Γ Fs d) (cd Fs) ⟨c.fl,c.cuts,c.invs,c.fu⟩ code ⟨bw 0 args,H,nm,0,[],[]⟩ (rT C c.fn.results.toList K)
   | _,_=>False
theorem cX{PP:Program}{C:Cx PP}{Γ:List (XR C)}{Fs:List (Y0 C)}(hm:C.P.follows .mixedOrders=true):∀d,eT C (jB Γ Fs d)
 | 0=>λf args H nm K h=>h.elim
 | d+1=>λf args H nm K h=>by simp only[jB] at h;split at h;exact h.elim;rename_i c hc;obtain rfl:=Fp hc;split at h;rename_i code hb hn;have hB:dL c.fl code=true:=(by have:=c.hB;unfold gq at this;rw[hb] at this;exact this);exact⟨c.en,de c.hf c.hB,λρ W vs hH X5 XP XQ XY=>gM ⟨c.fl,c.cuts,c.invs,c.fu⟩ (cX hm d) hm c.hf hb hn hB hH X5 XP XQ XY K h⟩;exact h.elim
def ae(out:SV)(H:aU)(v:SV):Prop:=match fzK H 4 [v] with
 | some [v']=>aT (vq 0 [] out v')
 | _=>False
def aJ(Γ:List (XR C))(Fs:List (Y0 C))(d:Nat)(h:How)(fn:Func)(args:List SV)(K:SV->aU->Nat->Prop):Prop:=
 match fn.body,Nat.ble args.length fn.ntmps with
 | some code,true=>ev Γ fn.ntmps 0 (jB Γ Fs d) (cd Fs) h code ⟨bw 0 args,[],0,0,[],[]⟩ (rT C fn.results.toList K)
 | _,_=>False
section
variable {Γ:List (XR C)}{Fs:List (Y0 C)}{d:Nat}
theorem gb{W:World}(hG:C.ZQ W)(hz:∀b i c,ze b i c->W.cell? ⟨b,i,none⟩=some c∧c.oneCell'=true):YH C [] (aI ze) W:=by
 have YY:∀n b,¬bM (aI ze) n b:=λn b ho=>by
  rcases ho with ho|⟨e,l,o,h1,-⟩|⟨i,l,o,h1,-⟩
  cases ho;cases h1;cases h1
 have hno2:∀b,¬jb (aI ze).YE b:=λb ho=>by
  rcases ho with ⟨n,ho⟩|ho
  exact YY n b ho;exact ho
 exact⟨⟨λn n' b h=>P' h (YY n b),λn b h=>P' h (YY n b),hz,hG⟩,λn sb h=>by cases h⟩
theorem pj{W:World}(hk:ae out H' v)(Yq:Mem C W (aI ze).YE Yl XM W')(YN:∀n sb,look H' n=some sb->cS XM W' n sb)(YR:den XM v val) :
  Gr W W'∧(∀b i c,(zR XM W').z b i c->(ze b i c∨W.heap.size<=b)∧W'.cell? ⟨b,i,none⟩=some c∧c.oneCell'=true)∧den (zR XM W') out val:=by
 have YY:∀n b,¬bM (aI ze) n b:=λn b ho=>by
  rcases ho with ho|⟨e,l,o,h1,-⟩|⟨i,l,o,h1,-⟩
  cases ho;cases h1;cases h1
 have hno2:∀b,¬jb (aI ze).YE b:=λb ho=>by
  rcases ho with ⟨n,ho⟩|ho
  exact YY n b ho;exact ho
 have hH':YH C H' XM W':=⟨Yq.hb,YN⟩
 unfold ae at hk;split at hk
 ·rename_i v' hv;have hd:=uy hH' 4 [v] [v'] [val] hv (aN YR rfl);obtain⟨u,us,e1,e2,e3⟩:=aF hd;obtain rfl:val=u:=(by injection e1);generalize hq:vq 0 [] out v'=q at hk;cases q with
  | none=>exact hk.elim
  | some q=>
   have ZN:=zc (nm:=0) (σ:=[]) (λi j h=>by omega) out v' q hq hk _ _ e2;refine⟨Yq.keep.Jb hno2,λb i c hz=>⟨?_,hz.1,hz.2.1⟩,bE (ρ:=iY 0 [] (zR XM W')) ⟨λn b h=>?_,λn b h=>?_,λn i b h=>?_,λ_ _ _ h=>h⟩ _ _ ZN⟩
   ·rcases hz.2.2 with h1|⟨n,h1⟩
    rcases Yq.zold b i c h1 with h2|h2|h2;exact .inl h2;exact .inr h2;exact P' h2 (hno2 b);rcases Yq.old n b h1 with h2|h2;exact P' h2 (hno2 b);exact .inr h2
   have:=(iz h).1;omega;have:=(gj h).1;omega;have:=(dI h).1;omega
 exact hk.elim
theorem Tl{W:World}(hk:ae out H' v)(Yq:Mem C W (aI ze).YE Yl XM W')(YN:∀n sb,look H' n=some sb->cS XM W' n sb)(YR:den XM v val) :
  ∃val2 z',Ending.returned val=.returned val2∧Gr W W'∧(∀b i c,z' b i c->(ze b i c∨W.heap.size<=b)∧W'.cell? ⟨b,i,none⟩=some c∧c.oneCell'=true)∧den (aI z') out val2:=
 let ⟨h1,h2,h3⟩:=pj hk Yq YN YR
 ⟨val,(zR XM W').z,rfl,h1,h2,h3⟩
theorem pD{W:World}(h:How)(hm:C.P.follows .mixedOrders=true)(hf:C.P.funcs[f]? = some fn)(hB:gq h.fl fn=true)(hG:C.ZQ W)(hz:∀b i c,ze b i c->W.cell? ⟨b,i,none⟩=some c∧c.oneCell'=true)(XY:au (aI ze) args vs)(he:aJ Γ Fs d h fn args λv H _=>ae out H v) :
  bj C.P C.co f vs.toArray W λe W'=>∃val z',e=.returned val∧Gr W W'∧(∀b i c,z' b i c->(ze b i c∨W.heap.size<=b)∧W'.cell? ⟨b,i,none⟩=some c∧c.oneCell'=true)∧den (aI z') out val:=by
 unfold aJ at he;split at he
 rotate_left
 exact he.elim;rename_i code hb hn;have hB:dL h.fl code=true:=by unfold gq at hB;rw[hb] at hB;exact hB
 refine(gM h (cX hm d) hm hf hb hn hB (gb hG hz) (λn b h=>by cases h) (λe l h=>by cases h) (λm i l h=>by cases h) XY _ he).mono ?_;rintro e W' ⟨v,val,H',Yl,XM,rfl,hk,Yq,YN,YR⟩;exact Tl hk Yq YN YR
def obO:List Prop->Option Prop
 | []=>none
 | l=>some (aD l)
theorem xS{l:List Prop}(h:ox (obO l)):aD l:=by
 cases l with
 | nil=>trivial
 | cons p r=>exact h
structure Rds (α:Type) where
 ov:List SV
 dec:List SV->α
 enc:α->List SV
 ok:∀xs,enc (dec xs)=jnL false ov xs
def fH(out:SV)(H:aU)(v:SV):Prop:=match frS H v with
 | some (v',ps)=>match ps with
  | []=>aT (vq 0 [] out v')
  | p::r=>aD (p::r)∧aT (vq 0 [] out v')
 | none=>False
theorem CE(h:fH out H v):∃v' ps,frS H v=some (v',ps)∧aD ps∧aT (vq 0 [] out v'):=by unfold fH at h;split at h;rename_i v' ps hv;split at h;exact⟨_,_,hv,trivial,h⟩;exact⟨_,_,hv,h⟩;exact h.elim
theorem Fg{W:World}(hk:fH out H' v)(Yq:Mem C W (aI ze).YE Yl XM W')(YN:∀n sb,look H' n=some sb->cS XM W' n sb)(YR:den XM v val) :
  ∃val2 z',Ending.returned val=.returned val2∧Gr W W'∧(∀b i c,z' b i c->(ze b i c∨W.heap.size<=b)∧W'.cell? ⟨b,i,none⟩=some c∧c.oneCell'=true)∧den (aI z') out val2∧∀b i c,z' b i c->W.heap.size<=b:=by
 have YY:∀n b,¬bM (aI ze) n b:=λn b ho=>by
  rcases ho with ho|⟨e,l,o,h1,-⟩|⟨i,l,o,h1,-⟩
  cases ho;cases h1;cases h1
 have hno2:∀b,¬jb (aI ze).YE b:=λb ho=>by
  rcases ho with ⟨n,ho⟩|ho
  exact YY n b ho;exact ho
 have hH':YH C H' XM W':=⟨Yq.hb,YN⟩
 obtain⟨v',ps,hv,hps,hk⟩:=CE hk;have e2:=Lg hH' v v' ps val hv hps YR;generalize hq:vq 0 [] out v'=q at hk;cases q with
 | none=>exact hk.elim
 | some q=>
  have ZN:=zc (nm:=0) (σ:=[]) (λi j h=>by omega) out v' q hq hk _ _ e2;have hnew:∀b i c,(zO XM W').z b i c->W.heap.size<=b:=λb i c hz=>(by obtain⟨-,-,n,h1⟩:=hz;rcases Yq.old n b h1 with h2|h2;exact P' h2 (hno2 b);exact h2);refine⟨val,(zO XM W').z,rfl,Yq.keep.Jb hno2,λb i c hz=>⟨.inr (hnew b i c hz),hz.1,hz.2.1⟩,bE (ρ:=iY 0 [] (zO XM W')) ⟨λn b h=>?_,λn b h=>?_,λn i b h=>?_,λ_ _ _ h=>h⟩ _ _ ZN,hnew⟩;have:=(iz h).1;omega;have:=(gj h).1;omega;have:=(dI h).1;omega
theorem HT{W:World}(h:How)(hm:C.P.follows .mixedOrders=true)(hf:C.P.funcs[f]? = some fn)(hB:gq h.fl fn=true)(hG:C.ZQ W)(hz:∀b i c,ze b i c->W.cell? ⟨b,i,none⟩=some c∧c.oneCell'=true)(XY:au (aI ze) args vs)(he:aJ Γ Fs d h fn args λv H _=>fH out H v) :
  bj C.P C.co f vs.toArray W λe W'=>∃val z',e=.returned val∧Gr W W'∧(∀b i c,z' b i c->(ze b i c∨W.heap.size<=b)∧W'.cell? ⟨b,i,none⟩=some c∧c.oneCell'=true)∧den (aI z') out val∧∀b i c,z' b i c->W.heap.size<=b:=by
 unfold aJ at he;split at he
 rotate_left
 exact he.elim;rename_i code hb hn;have hB:dL h.fl code=true:=by unfold gq at hB;rw[hb] at hB;exact hB
 refine(gM h (cX hm d) hm hf hb hn hB (gb hG hz) (λn b h=>by cases h) (λe l h=>by cases h) (λm i l h=>by cases h) XY _ he).mono ?_;rintro e W' ⟨v,val,H',Yl,XM,rfl,hk,Yq,YN,YR⟩;exact Fg hk Yq YN YR
def ru(f:FuncId)(en:∀(args:Array Value) (w:World),(callFunc f args).run C.P w=.ok (.enter f args) w)(hns:∀args:Array Value,NS C.P (callFunc f args))(R:Rds α)(pre:α->List Prop)(out:α->SV)(h:∀(a:α) (ze:Nat->Nat->Value->Prop) (W:World) (vs:List Value),aD (pre a)->C.ZQ W->(∀b i c,ze b i c->W.cell? ⟨b,i,none⟩=some c∧c.oneCell'=true)->au (aI ze) (R.enc a) vs->
   bj C.P C.co f vs.toArray W λe W'=>∃val z',e=.returned val∧Gr W W'∧(∀b i c,z' b i c->(ze b i c∨W.heap.size<=b)∧W'.cell? ⟨b,i,none⟩=some c∧c.oneCell'=true)∧den (aI z') (out a) val):XR C where
 f:=f
 en:=en
 ns:=hns
 run:=λargs=>match fL R.ov args with|some l=>some (obO (l++pre (R.dec args)),out (R.dec args))|none=>none
 fresh:=false
 own:=none
 ok:=by intro ze W args vs ob o hG hz hd hr ho;split at hr;rename_i l hl;obtain⟨rfl,rfl⟩:=F7 (Oi hr);obtain⟨c1,c2⟩:=b8 (xS ho);refine(h (R.dec args) ze W vs c2 hG hz ?_).mono (λe W' ⟨val,z',h1,h2,h3,h4⟩=>⟨val,z',h1,h2,h3,h4,(λc=>by cases c),λt c=>by cases c⟩);rw[R.ok];exact bZ _ _ _ (fY _ _ l hl c1) hd;cases hr
def af(f:FuncId)(en:∀(args:Array Value) (w:World),(callFunc f args).run C.P w=.ok (.enter f args) w)(R:Rds α)(pre:α->List Prop)(out:α->SV)(h:α->How)(fl:List Nat)(hfl:∀a,(h a).fl=fl)(hm:C.P.follows .mixedOrders=true)(hf:C.P.funcs[f]? = some fn)(hB:gq fl fn=true)(he:∀a,aD (pre a)->aJ Γ Fs d (h a) fn (R.enc a) λv H _=>ae (out a) H v):XR C:=
 ru f en (de hf hB) R pre out λa ze W vs hp hG hz hd=>pD (h a) hm hf (by rw[hfl];exact hB) hG hz hd (he a hp)
def SE(f:FuncId)(en:∀(args:Array Value) (w:World),(callFunc f args).run C.P w=.ok (.enter f args) w)(hns:∀args:Array Value,NS C.P (callFunc f args))(R:Rds α)(pre:α->List Prop)(out:α->SV)(h:∀(a:α) (ze:Nat->Nat->Value->Prop) (W:World) (vs:List Value),aD (pre a)->C.ZQ W->(∀b i c,ze b i c->W.cell? ⟨b,i,none⟩=some c∧c.oneCell'=true)->au (aI ze) (R.enc a) vs->
   bj C.P C.co f vs.toArray W λe W'=>∃val z',e=.returned val∧Gr W W'∧(∀b i c,z' b i c->(ze b i c∨W.heap.size<=b)∧W'.cell? ⟨b,i,none⟩=some c∧c.oneCell'=true)∧den (aI z') (out a) val∧∀b i c,z' b i c->W.heap.size<=b):XR C where
 f:=f
 en:=en
 ns:=hns
 run:=λargs=>match fL R.ov args with|some l=>some (obO (l++pre (R.dec args)),out (R.dec args))|none=>none
 fresh:=true
 own:=none
 ok:=by intro ze W args vs ob o hG hz hd hr ho;split at hr;rename_i l hl;obtain⟨rfl,rfl⟩:=F7 (Oi hr);obtain⟨c1,c2⟩:=b8 (xS ho);refine(h (R.dec args) ze W vs c2 hG hz ?_).mono (λe W' ⟨val,z',h1,h2,h3,h4,h5⟩=>⟨val,z',h1,h2,h3,h4,(λ_=>h5),λt c=>by cases c⟩);rw[R.ok];exact bZ _ _ _ (fY _ _ l hl c1) hd;cases hr
def jo(f:FuncId)(en:∀(args:Array Value) (w:World),(callFunc f args).run C.P w=.ok (.enter f args) w)(R:Rds α)(pre:α->List Prop)(out:α->SV)(h:α->How)(fl:List Nat)(hfl:∀a,(h a).fl=fl)(hm:C.P.follows .mixedOrders=true)(hf:C.P.funcs[f]? = some fn)(hB:gq fl fn=true)(he:∀a,aD (pre a)->aJ Γ Fs d (h a) fn (R.enc a) λv H _=>fH (out a) H v):XR C:=
 SE f en (de hf hB) R pre out λa ze W vs hp hG hz hd=>HT (h a) hm hf (by rw[hfl];exact hB) hG hz hd (he a hp)
def sw(szo no:Nat)(fo:Nat->List SV)(t0:TypeId)(H:aU)(v:SV):Prop:=match v with
 | .e=>no=0
 | .v (.slice _ 0 0)=>no=0
 | .g m e sz off n=>match off with
  | 0=>match look H m with
   | some (.lst e' Yb _ f t)=>e=e'∧Yb=szo∧t=t0∧no=n∧∀i,i<n->gW (fo i)=true∧fo i=f i
   | _=>False
  | _=>False
 | _=>False
def CM(out:SV)(t0:TypeId)(H:aU)(v:SV):Prop:=match out with
 | .rs szo no fo=>sw szo no fo t0 H v
 | .agg [x,.rs szo no fo]=>match v with
  | .agg [x',v']=>uC x=true∧x=x'∧sw szo no fo t0 H v'
  | _=>False
 | _=>False
def sh(out:SV)(t0:TypeId)(H:aU)(v:SV):Prop:=fH out H v∧CM out t0 H v
theorem tH{W:World}{fo:Nat->List SV}(hk:sw szo no fo t0 H' v)(Yq:Mem C W (aI ze).YE Yl XM W')(YN:∀n sb,look H' n=some sb->cS XM W' n sb){zz:Nat->Nat->Value->Prop}(YR:den XM v val):Il zz W W' val szo no fo t0:=by
 have hno2:∀b,¬jb (aI ze).YE b:=λb ho=>by
  rcases ho with ⟨n,ho⟩|ho
  ·rcases ho with ho|⟨e,l,o,h1,-⟩|⟨i,l,o,h1,-⟩
   cases ho;cases h1;cases h1
  exact ho
 unfold sw at hk;split at hk;obtain⟨a,rfl⟩:=YR;subst hk;exact⟨a,0,λ_ _ _=>False,λ_ _ _ h=>h.elim,rfl,F2 _,λh=>P' rfl h⟩;rename_i a;obtain rfl:val=.slice a 0 0:=YR;subst hk;exact⟨a,0,λ_ _ _=>False,λ_ _ _ h=>h.elim,rfl,F2 _,λh=>P' rfl h⟩;rename_i m e sz off n;split at hk;split at hk;rename_i e' Yb N f t hl;obtain⟨rfl,rfl,rfl,rfl,hf⟩:=hk;obtain⟨l,h1,h2,h3,h4,h5⟩:=YN _ _ hl;obtain⟨l',k1,k2,k3,k4,a',rfl,k6⟩:=YR;obtain rfl:l=l':=(by rw[h1] at k1;exact Oi k1);refine⟨a',l.cap,λ_ _ _=>False,λ_ _ _ h=>h.elim,by simp,by omega,λhc=>?_⟩;obtain⟨b,u,q1,q2,q3,q4,q5,q6⟩:=h5 hc;obtain⟨b',p1,p2⟩:=k6 (by simpa using hc);obtain rfl:b=b':=(by rw[q1] at p1;injection p1 with p1;injection p1);refine⟨b,u,by rw[p2];simp,?_,q2,q3,q4,λ_ _ h=>h,λi hi=>?_⟩;rcases Yq.old m b (.inr (.inl ⟨e,l,0,h1,h2,hc,q1⟩)) with h|h;exact P' h (hno2 b);exact h;obtain⟨us,r1,r2,r3⟩:=q6 i (by omega);obtain⟨s1,s2⟩:=hf i hi;refine⟨us,?_,r2,r3⟩;rw[<-s2] at r1;exact eV _ _ s1 r1;exact hk.elim;exact hk.elim;exact hk.elim
theorem G1{W:World}(hk:CM out t0 H' v)(Yq:Mem C W (aI ze).YE Yl XM W')(YN:∀n sb,look H' n=some sb->cS XM W' n sb){zz:Nat->Nat->Value->Prop}(YR:den XM v val):M6 zz W W' val t0 out:=by unfold CM at hk;split at hk;exact tH hk Yq YN YR;split at hk;obtain⟨h1,rfl,h2⟩:=hk;obtain⟨us,⟨u,w,rfl,d1,v,w2,rfl,d2,rfl⟩,rfl⟩:=YR;exact⟨u,v,rfl,mG _ _ h1 d1,tH h2 Yq YN d2⟩;exact hk.elim;exact hk.elim
theorem HS{W:World}(h:How)(hm:C.P.follows .mixedOrders=true)(hf:C.P.funcs[f]? = some fn)(hB:gq h.fl fn=true)(hG:C.ZQ W)(hz:∀b i c,ze b i c->W.cell? ⟨b,i,none⟩=some c∧c.oneCell'=true)(XY:au (aI ze) args vs)(he:aJ Γ Fs d h fn args λv H _=>sh out t0 H v) :
  bj C.P C.co f vs.toArray W λe W'=>∃val z',e=.returned val∧Gr W W'∧(∀b i c,z' b i c->(ze b i c∨W.heap.size<=b)∧W'.cell? ⟨b,i,none⟩=some c∧c.oneCell'=true)∧den (aI z') out val∧(∀b i c,z' b i c->W.heap.size<=b)∧M6 z' W W' val t0 out:=by
 unfold aJ at he;split at he
 rotate_left
 exact he.elim;rename_i code hb hn;have hB:dL h.fl code=true:=by unfold gq at hB;rw[hb] at hB;exact hB
 refine(gM h (cX hm d) hm hf hb hn hB (gb hG hz) (λn b h=>by cases h) (λe l h=>by cases h) (λm i l h=>by cases h) XY _ he).mono ?_;rintro e W' ⟨v,val,H',Yl,XM,rfl,⟨hk,hko⟩,Yq,YN,YR⟩;obtain⟨val2,z',e1,h2,h3,h4,h5⟩:=Fg hk Yq YN YR;obtain rfl:val=val2:=by injection e1
 exact⟨val,z',rfl,h2,h3,h4,h5,G1 hko Yq YN YR⟩
def xN(szo no:Nat)(fo:Nat->List SV)(t0:TypeId)(H:aU)(v:SV):Prop:=match v with
 | .e=>no=0
 | .v (.slice _ 0 0)=>no=0
 | .g m e sz off n=>match off with
  | 0=>match look H m with
   | some (.lst e' Yb _ f t)=>e=e'∧Yb=szo∧t=t0∧no=n∧∀i,i<n->fo i=f i
   | _=>False
  | _=>False
 | _=>False
theorem CL{W:World}{fo:Nat->List SV}(hk:xN szo no fo t0 H' v)(Yq:Mem C W (aI ze).YE Yl XM W')(YN:∀n sb,look H' n=some sb->cS XM W' n sb)(YR:den XM v val):Il (zR XM W').z W W' val szo no fo t0:=by
 have hno2:∀b,¬jb (aI ze).YE b:=λb ho=>by
  rcases ho with ⟨n,ho⟩|ho
  ·rcases ho with ho|⟨e,l,o,h1,-⟩|⟨i,l,o,h1,-⟩
   cases ho;cases h1;cases h1
  exact ho
 have hz0:∀b i c,XM.z b i c->(zR XM W').z b i c:=λb i c h=>⟨(Yq.hb.zok b i c h).1,(Yq.hb.zok b i c h).2,.inl h⟩
 unfold xN at hk;split at hk;obtain⟨a,rfl⟩:=YR;subst hk;exact⟨a,0,λ_ _ _=>False,λ_ _ _ h=>h.elim,rfl,F2 _,λh=>P' rfl h⟩;rename_i a;obtain rfl:val=.slice a 0 0:=YR;subst hk;exact⟨a,0,λ_ _ _=>False,λ_ _ _ h=>h.elim,rfl,F2 _,λh=>P' rfl h⟩;rename_i m e sz off n;split at hk;split at hk;rename_i e' Yb N f t hl;obtain⟨rfl,rfl,rfl,rfl,hf⟩:=hk;obtain⟨l,h1,h2,h3,h4,h5⟩:=YN _ _ hl;obtain⟨l',k1,k2,k3,k4,a',rfl,k6⟩:=YR;obtain rfl:l=l':=(by rw[h1] at k1;exact Oi k1);refine⟨a',l.cap,XM.z,hz0,by simp,by omega,λhc=>?_⟩;obtain⟨b,u,q1,q2,q3,q4,q5,q6⟩:=h5 hc;obtain⟨b',p1,p2⟩:=k6 (by simpa using hc);obtain rfl:b=b':=(by rw[q1] at p1;injection p1 with p1;injection p1);refine⟨b,u,by rw[p2];simp,?_,q2,q3,q4,q5,λi hi=>?_⟩;rcases Yq.old m b (.inr (.inl ⟨e,l,0,h1,h2,hc,q1⟩)) with h|h;exact P' h (hno2 b);exact h;obtain⟨us,r1,r2,r3⟩:=q6 i (by omega);exact⟨us,by rw[hf i hi];exact r1,r2,r3⟩;exact hk.elim;exact hk.elim;exact hk.elim
def SD(f:FuncId)(en:∀(args:Array Value) (w:World),(callFunc f args).run C.P w=.ok (.enter f args) w)(hns:∀args:Array Value,NS C.P (callFunc f args))(R:Rds α)(pre:α->List Prop)(out:α->SV)(t0:TypeId)(h:∀(a:α) (ze:Nat->Nat->Value->Prop) (W:World) (vs:List Value),aD (pre a)->C.ZQ W->(∀b i c,ze b i c->W.cell? ⟨b,i,none⟩=some c∧c.oneCell'=true)->au (aI ze) (R.enc a) vs->
   bj C.P C.co f vs.toArray W λe W'=>∃val z',e=.returned val∧Gr W W'∧(∀b i c,z' b i c->(ze b i c∨W.heap.size<=b)∧W'.cell? ⟨b,i,none⟩=some c∧c.oneCell'=true)∧den (aI z') (out a) val∧(∀b i c,z' b i c->W.heap.size<=b)∧M6 z' W W' val t0 (out a)):XR C where
 f:=f
 en:=en
 ns:=hns
 run:=λargs=>match fL R.ov args with|some l=>some (obO (l++pre (R.dec args)),out (R.dec args))|none=>none
 fresh:=true
 own:=some t0
 ok:=by intro ze W args vs ob o hG hz hd hr ho;split at hr;rename_i l hl;obtain⟨rfl,rfl⟩:=F7 (Oi hr);obtain⟨c1,c2⟩:=b8 (xS ho);refine(h (R.dec args) ze W vs c2 hG hz ?_).mono (λe W' ⟨val,z',h1,h2,h3,h4,h5,h6⟩=>⟨val,z',h1,h2,h3,h4,(λ_=>h5),λt c=>by cases c;exact h6⟩);rw[R.ok];exact bZ _ _ _ (fY _ _ l hl c1) hd;cases hr
def za(f:FuncId)(en:∀(args:Array Value) (w:World),(callFunc f args).run C.P w=.ok (.enter f args) w)(R:Rds α)(pre:α->List Prop)(out:α->SV)(t0:TypeId)(h:α->How)(fl:List Nat)(hfl:∀a,(h a).fl=fl)(hm:C.P.follows .mixedOrders=true)(hf:C.P.funcs[f]? = some fn)(hB:gq fl fn=true)(he:∀a,aD (pre a)->aJ Γ Fs d (h a) fn (R.enc a) λv H _=>sh (out a) t0 H v):XR C:=
 SD f en (de hf hB) R pre out t0 λa ze W vs hp hG hz hd=>HS (h a) hm hf (by rw[hfl];exact hB) hG hz hd (he a hp)
end
structure Rd (α:Type) where
 pat:SV
 dec:SV->α
 enc:α->SV
 ok:∀x,enc (dec x)=jn false pat x
def Yp(k:IntKind):Rd Int:=⟨.v (.int k 0),SV.iv,λn=>.v (.int k n),λ_=>rfl⟩
def rdB:Rd Bool:=⟨.v (.bool false),SV.bv,λn=>.v (.bool n),λ_=>rfl⟩
def YS:Rd SV:=⟨.e,id,id,λ_=>rfl⟩
structure Fam where
 n:Nat
 g:Nat->Int
def rdF(k:IntKind):Rd Fam:=⟨.rs 1 0 λ_=>[.v (.int k 0)],λx=>⟨x.rn,λi=>(YQ (x.rf i)).iv⟩,λf=>.rs 1 f.n λi=>[.v (.int k (f.g i))],λ_=>rfl⟩
section
variable {β γ δ ε:Type}
def CF:Rds Unit:=⟨[],λ_=>(),λ_=>[],λ_=>rfl⟩
def bh(a:Rd α):Rds α:=⟨[a.pat],λxs=>a.dec (YQ xs),λx=>[a.enc x],λxs=>by simp only[a.ok];rfl⟩
def aH(a:Rd α)(b:Rd β):Rds (α×β):=⟨[a.pat,b.pat],λxs=>(a.dec (YQ xs),b.dec (YQ (Yz xs))),λx=>[a.enc x.1,b.enc x.2],λxs=>by simp only[a.ok,b.ok];rfl⟩
def eC(a:Rd α)(b:Rd β)(c:Rd γ):Rds (α×β×γ):=⟨[a.pat,b.pat,c.pat],λxs=>(a.dec (YQ xs),b.dec (YQ (Yz xs)),c.dec (YQ (Yz (Yz xs)))),λx=>[a.enc x.1,b.enc x.2.1,c.enc x.2.2],λxs=>by simp only[a.ok,b.ok,c.ok];rfl⟩
end
def ak:How:=⟨[],[],[],0⟩
def types:List (Nat×TI):=[(1,⟨1,8,.prim,[.v .nilFunc],false⟩),
 (2,⟨1,8,.int .i64,[.il .i64 0],false⟩),
 (3,⟨1,8,.int .i64,[.il .i64 0],false⟩),
 (4,⟨1,1,.bool,[.bl false],false⟩),
 (5,⟨1,1,.int .u8,[.il .u8 0],false⟩),
 (6,⟨1,1,.int .u8,[.il .u8 0],false⟩),
 (7,⟨4,24,.struct [(0,2),(1,3),(2,4),(3,6)],[.il .i64 0,.il .i64 0,.bl false,.il .u8 0],true⟩),
 (8,⟨4,24,.struct [(0,2),(1,3),(2,4),(3,6)],[.il .i64 0,.il .i64 0,.bl false,.il .u8 0],true⟩),
 (9,⟨1,16,.str,[.v (.string ⟨#[]⟩)],false⟩),
 (10,⟨1,16,.str,[.v (.string ⟨#[]⟩)],false⟩),
 (11,⟨1,16,.str,[.v (.string ⟨#[]⟩)],false⟩),
 (12,⟨1,8,.int .u64,[.il .u64 0],false⟩),
 (13,⟨2,24,.struct [(0,9),(1,12)],[.v (.string ⟨#[]⟩),.il .u64 0],false⟩),
 (14,⟨2,24,.struct [(0,9),(1,12)],[.v (.string ⟨#[]⟩),.il .u64 0],false⟩),
 (15,⟨1,8,.ptr,[.v (.pointer none)],false⟩),
 (16,⟨1,8,.ptr,[.v (.pointer none)],false⟩),
 (17,⟨1,8,.ptr,[.v (.pointer none)],false⟩),
 (18,⟨1,8,.struct [(0,17)],[.v (.pointer none)],false⟩),
 (19,⟨1,8,.struct [(0,17)],[.v (.pointer none)],false⟩),
 (20,⟨1,16,.prim,[.v .nilIface],false⟩),
 (21,⟨1,4,.int .i32,[.il .i32 0],false⟩),
 (22,⟨2,16,.struct [(0,3),(1,3)],[.il .i64 0,.il .i64 0],true⟩),
 (23,⟨2,16,.struct [(0,3),(1,3)],[.il .i64 0,.il .i64 0],true⟩),
 (24,⟨4,32,.struct [(0,23),(2,23)],[.il .i64 0,.il .i64 0,.il .i64 0,.il .i64 0],true⟩),
 (25,⟨4,32,.struct [(0,23),(2,23)],[.il .i64 0,.il .i64 0,.il .i64 0,.il .i64 0],true⟩),
 (26,⟨1,24,.sl 39,[.v (.slice none 0 0)],false⟩),
 (27,⟨2,32,.struct [(0,3),(1,26)],[.il .i64 0,.v (.slice none 0 0)],false⟩),
 (28,⟨2,32,.struct [(0,3),(1,26)],[.il .i64 0,.v (.slice none 0 0)],false⟩),
 (29,⟨1,24,.sl 90,[.v (.slice none 0 0)],false⟩),
 (30,⟨1,24,.sl 94,[.v (.slice none 0 0)],false⟩),
 (31,⟨1,8,.int .u64,[.il .u64 0],false⟩),
 (33,⟨4,64,.struct [(0,29),(1,30),(2,31),(3,3)],[.v (.slice none 0 0),.v (.slice none 0 0),.il .u64 0,.il .i64 0],false⟩),
 (34,⟨1,24,.sl 62,[.v (.slice none 0 0)],false⟩),
 (36,⟨13,168,.struct [(0,25),(4,28),(6,33),(10,34),(11,23)],[.il .i64 0,.il .i64 0,.il .i64 0,.il .i64 0,.il .i64 0,.v (.slice none 0 0),.v (.slice none 0 0),.v (.slice none 0 0),.il .u64 0,.il .i64 0,.v (.slice none 0 0),.il .i64 0,.il .i64 0],false⟩),
 (37,⟨1,24,.sl 52,[.v (.slice none 0 0)],false⟩),
 (39,⟨2,32,.struct [(0,3),(1,37)],[.il .i64 0,.v (.slice none 0 0)],false⟩),
 (43,⟨1,8,.int .i64,[.il .i64 0],false⟩),
 (50,⟨4,32,.arr 4 3,[.il .i64 0,.il .i64 0,.il .i64 0,.il .i64 0],true⟩),
 (52,⟨5,40,.struct [(0,5),(1,50)],[.il .u8 0,.il .i64 0,.il .i64 0,.il .i64 0,.il .i64 0],true⟩),
 (57,⟨1,24,.sl 75,[.v (.slice none 0 0)],false⟩),
 (59,⟨1,8,.prim,[.v .nilFunc],false⟩),
 (62,⟨3,24,.struct [(0,3),(1,3),(2,3)],[.il .i64 0,.il .i64 0,.il .i64 0],true⟩),
 (63,⟨1,8,.prim,[.v .nilFunc],false⟩),
 (66,⟨1,24,.sl 192,[.v (.slice none 0 0)],false⟩),
 (67,⟨1,24,.sl 212,[.v (.slice none 0 0)],false⟩),
 (68,⟨1,24,.sl 3,[.v (.slice none 0 0)],false⟩),
 (70,⟨3,72,.struct [(0,66),(1,67),(2,68)],[.v (.slice none 0 0),.v (.slice none 0 0),.v (.slice none 0 0)],false⟩),
 (75,⟨10,80,.struct [(0,3),(1,3),(2,3),(3,23),(5,4),(6,23),(8,3),(9,3)],[.il .i64 0,.il .i64 0,.il .i64 0,.il .i64 0,.il .i64 0,.bl false,.il .i64 0,.il .i64 0,.il .i64 0,.il .i64 0],true⟩),
 (78,⟨1,8,.prim,[.v .nilFunc],false⟩),
 (79,⟨1,8,.ptr,[.v (.pointer none)],false⟩),
 (88,⟨1,4,.int .u32,[.il .u32 0],false⟩),
 (90,⟨4,32,.struct [(0,9),(1,88),(2,88),(3,3)],[.v (.string ⟨#[]⟩),.il .u32 0,.il .u32 0,.il .i64 0],true⟩),
 (92,⟨1,24,.sl 124,[.v (.slice none 0 0)],false⟩),
 (94,⟨4,40,.struct [(0,92),(1,3),(2,88),(3,88)],[.v (.slice none 0 0),.il .i64 0,.il .u32 0,.il .u32 0],false⟩),
 (98,⟨1,8,.prim,[.v .nilFunc],false⟩),
 (101,⟨1,8,.prim,[.v .nilFunc],false⟩),
 (110,⟨1,24,.sl 1,[.v (.slice none 0 0)],false⟩),
 (115,⟨1,8,.prim,[.v .nilFunc],false⟩),
 (124,⟨2,16,.struct [(0,5),(1,3)],[.il .u8 0,.il .i64 0],true⟩),
 (130,⟨1,8,.prim,[.v .nilFunc],false⟩),
 (132,⟨1,8,.mp 9 3,[.v (.map none)],false⟩),
 (135,⟨1,8,.prim,[.v .nilFunc],false⟩),
 (138,⟨2,16,.struct [(0,3),(1,3)],[.il .i64 0,.il .i64 0],true⟩),
 (139,⟨32,256,.arr 16 138,[.il .i64 0,.il .i64 0,.il .i64 0,.il .i64 0,.il .i64 0,.il .i64 0,.il .i64 0,.il .i64 0,.il .i64 0,.il .i64 0,.il .i64 0,.il .i64 0,.il .i64 0,.il .i64 0,.il .i64 0,.il .i64 0,.il .i64 0,.il .i64 0,.il .i64 0,.il .i64 0,.il .i64 0,.il .i64 0,.il .i64 0,.il .i64 0,.il .i64 0,.il .i64 0,.il .i64 0,.il .i64 0,.il .i64 0,.il .i64 0,.il .i64 0,.il .i64 0],true⟩),
 (143,⟨1,8,.prim,[.v .nilFunc],false⟩),
 (144,⟨1,8,.mp 3 3,[.v (.map none)],false⟩),
 (147,⟨1,24,.sl 199,[.v (.slice none 0 0)],false⟩),
 (149,⟨4,64,.struct [(0,147),(1,34),(2,23)],[.v (.slice none 0 0),.v (.slice none 0 0),.il .i64 0,.il .i64 0],false⟩),
 (155,⟨2,16,.struct [(0,3),(1,3)],[.il .i64 0,.il .i64 0],true⟩),
 (156,⟨8,64,.arr 4 155,[.il .i64 0,.il .i64 0,.il .i64 0,.il .i64 0,.il .i64 0,.il .i64 0,.il .i64 0,.il .i64 0],true⟩),
 (157,⟨88,704,.arr 11 156,[.il .i64 0,.il .i64 0,.il .i64 0,.il .i64 0,.il .i64 0,.il .i64 0,.il .i64 0,.il .i64 0,.il .i64 0,.il .i64 0,.il .i64 0,.il .i64 0,.il .i64 0,.il .i64 0,.il .i64 0,.il .i64 0,.il .i64 0,.il .i64 0,.il .i64 0,.il .i64 0,.il .i64 0,.il .i64 0,.il .i64 0,.il .i64 0,.il .i64 0,.il .i64 0,.il .i64 0,.il .i64 0,.il .i64 0,.il .i64 0,.il .i64 0,.il .i64 0,.il .i64 0,.il .i64 0,.il .i64 0,.il .i64 0,.il .i64 0,.il .i64 0,.il .i64 0,.il .i64 0,.il .i64 0,.il .i64 0,.il .i64 0,.il .i64 0,.il .i64 0,.il .i64 0,.il .i64 0,.il .i64 0,.il .i64 0,.il .i64 0,.il .i64 0,.il .i64 0,.il .i64 0,.il .i64 0,.il .i64 0,.il .i64 0,.il .i64 0,.il .i64 0,.il .i64 0,.il .i64 0,.il .i64 0,.il .i64 0,.il .i64 0,.il .i64 0,.il .i64 0,.il .i64 0,.il .i64 0,.il .i64 0,.il .i64 0,.il .i64 0,.il .i64 0,.il .i64 0,.il .i64 0,.il .i64 0,.il .i64 0,.il .i64 0,.il .i64 0,.il .i64 0,.il .i64 0,.il .i64 0,.il .i64 0,.il .i64 0,.il .i64 0,.il .i64 0,.il .i64 0,.il .i64 0,.il .i64 0,.il .i64 0],true⟩),
 (163,⟨1,8,.prim,[.v .nilFunc],false⟩),
 (164,⟨1,8,.int .u64,[.il .u64 0],false⟩),
 (166,⟨2,8,.arr 2 88,[.il .u32 0,.il .u32 0],true⟩),
 (167,⟨1,24,.sl 5,[.v (.slice none 0 0)],false⟩),
 (169,⟨1,8,.prim,[.v .nilFunc],false⟩),
 (175,⟨1,24,.sl 66,[.v (.slice none 0 0)],false⟩),
 (184,⟨2,16,.struct [(0,178),(0,182),(1,88)],[.il .u64 0,.il .u32 0],true⟩),
 (190,⟨2,16,.struct [(0,3),(1,3)],[.il .i64 0,.il .i64 0],true⟩),
 (192,⟨3,24,.struct [(0,190),(2,43)],[.il .i64 0,.il .i64 0,.il .i64 0],true⟩),
 (195,⟨1,8,.prim,[.v .nilFunc],false⟩),
 (199,⟨9,64,.struct [(0,3),(1,23),(3,23),(5,3),(6,3),(7,4),(8,4)],[.il .i64 0,.il .i64 0,.il .i64 0,.il .i64 0,.il .i64 0,.il .i64 0,.il .i64 0,.bl false,.bl false],true⟩),
 (201,⟨1,8,.ptr,[.v (.pointer none)],false⟩),
 (202,⟨2,16,.arr 2 201,[.v (.pointer none),.v (.pointer none)],false⟩),
 (204,⟨1,8,.ptr,[.v (.pointer none)],false⟩),
 (206,⟨15,144,.struct [(0,149),(4,199),(13,3),(14,3)],[.v (.slice none 0 0),.v (.slice none 0 0),.il .i64 0,.il .i64 0,.il .i64 0,.il .i64 0,.il .i64 0,.il .i64 0,.il .i64 0,.il .i64 0,.il .i64 0,.bl false,.bl false,.il .i64 0,.il .i64 0],false⟩),
 (210,⟨2,2,.arr 2 5,[.il .u8 0,.il .u8 0],true⟩),
 (212,⟨3,24,.struct [(0,3),(1,5),(2,3)],[.il .i64 0,.il .u8 0,.il .i64 0],true⟩),
 (216,⟨1,8,.prim,[.v .nilFunc],false⟩),
 (220,⟨2,16,.struct [(0,31),(1,31)],[.il .u64 0,.il .u64 0],true⟩),
 (222,⟨3,24,.struct [(0,220),(2,4)],[.il .u64 0,.il .u64 0,.bl false],true⟩),
 (230,⟨1,8,.ptr,[.v (.pointer none)],false⟩),
 (257,⟨1,8,.prim,[.v .nilFunc],false⟩),
 (262,⟨1,8,.prim,[.v .nilFunc],false⟩),
 (272,⟨1,24,.sl 222,[.v (.slice none 0 0)],false⟩),
 (287,⟨1,8,.int .i64,[.il .i64 0],false⟩),
 (297,⟨1,8,.prim,[.v .nilFunc],false⟩),
 (325,⟨1,8,.prim,[.v .nilFunc],false⟩),
 (326,⟨2,16,.arr 2 325,[.v .nilFunc,.v .nilFunc],false⟩),
 (327,⟨4,32,.arr 2 326,[.v .nilFunc,.v .nilFunc,.v .nilFunc,.v .nilFunc],false⟩)]
set_option maxRecDepth 100000 in
theorem zg:types.all (Qo Tryz.prog)=true:=by kernel_rfl
def ground:List (Nat×(List SV×TypeId)):=[(0,([.il .i64 0,.il .i64 0,.il .i64 0,.il .i64 0,.il .i64 0,.il .i64 0,.il .i64 0,.il .i64 0,.il .i64 (-1048576),.il .i64 1048576,.il .i64 (-1048576),.il .i64 1048576,.il .i64 0,.il .i64 0,.il .i64 0,.il .i64 0,.il .i64 (-4096),.il .i64 4096,.il .i64 (-4096),.il .i64 4096,.il .i64 0,.il .i64 0,.il .i64 0,.il .i64 0,.il .i64 1,.il .i64 16384,.il .i64 1,.il .i64 16384,.il .i64 0,.il .i64 1,.il .i64 0,.il .i64 1,.il .i64 1,.il .i64 8,.il .i64 0,.il .i64 0,.il .i64 0,.il .i64 0,.il .i64 0,.il .i64 0,.il .i64 0,.il .i64 510,.il .i64 0,.il .i64 0,.il .i64 0,.il .i64 0,.il .i64 0,.il .i64 0,.il .i64 0,.il .i64 15,.il .i64 0,.il .i64 0,.il .i64 0,.il .i64 0,.il .i64 0,.il .i64 0,.il .i64 (-2147483648),.il .i64 2147483647,.il .i64 (-2147483648),.il .i64 2147483647,.il .i64 (-2147483648),.il .i64 2147483647,.il .i64 (-2147483648),.il .i64 2147483647,.il .i64 0,.il .i64 1048576,.il .i64 0,.il .i64 1048576,.il .i64 0,.il .i64 0,.il .i64 0,.il .i64 0,.il .i64 0,.il .i64 2147483647,.il .i64 0,.il .i64 2147483647,.il .i64 0,.il .i64 2147483647,.il .i64 0,.il .i64 2147483647,.il .i64 (-2147483648),.il .i64 2147483647,.il .i64 (-2147483648),.il .i64 2147483647,.il .i64 (-2147483648),.il .i64 2147483647,.il .i64 (-2147483648),.il .i64 2147483647],157)),(1,([.v (.func (.func 264) #[] #[]),.v (.func (.func 265) #[] #[]),.v (.func (.func 266) #[] #[]),.v (.func (.func 267) #[] #[])],327))]
def cx:Cx Tryz.prog:={T:=types,G:=ground,gm:=2,hT:=zg}
theorem follows:cx.P.follows .mixedOrders=true:=by kernel_rfl
def sl(t:Nat)(v:SV):Nat×Slot:=(t,⟨0,0,[],v⟩)
def XT(x:Int):Prop:=-9223372036854775808<=x∧x<=9223372036854775807
def i64(n:Int):SV:=.v (.int .i64 n)
structure Vec where
 x:Int
 y:Int
def Vec.cells(b:Vec):List SV:=[.v (.int .i64 b.x),.v (.int .i64 b.y)]
def Vec.sv(b:Vec):SV:=.agg b.cells
def Vec.of(x:SV):Vec:=⟨(YQ (x.al)).iv,(YQ (Yz (x.al))).iv⟩
def fb:Rd Vec:=⟨.agg [.v (.int .i64 0),.v (.int .i64 0)],Vec.of,Vec.sv,λ_=>rfl⟩
structure Body where
 iD:Int
 posX:Int
 posY:Int
 velX:Int
 velY:Int
 w:Int
 h:Int
 round:Bool
 fixed:Bool
def Body.cells(b:Body):List SV:=[.v (.int .i64 b.iD),.v (.int .i64 b.posX),.v (.int .i64 b.posY),.v (.int .i64 b.velX),.v (.int .i64 b.velY),.v (.int .i64 b.w),.v (.int .i64 b.h),.v (.bool b.round),.v (.bool b.fixed)]
def Body.sv(b:Body):SV:=.agg b.cells
def Body.of(x:SV):Body:=⟨(YQ (x.al)).iv,(YQ (Yz (x.al))).iv,(YQ (Yz (Yz (x.al)))).iv,(YQ (Yz (Yz (Yz (x.al))))).iv,(YQ (Yz (Yz (Yz (Yz (x.al)))))).iv,(YQ (Yz (Yz (Yz (Yz (Yz (x.al))))))).iv,(YQ (Yz (Yz (Yz (Yz (Yz (Yz (x.al)))))))).iv,(YQ (Yz (Yz (Yz (Yz (Yz (Yz (Yz (x.al))))))))).bv,(YQ (Yz (Yz (Yz (Yz (Yz (Yz (Yz (Yz (x.al)))))))))).bv⟩
def p8:Rd Body:=⟨.agg [.v (.int .i64 0),.v (.int .i64 0),.v (.int .i64 0),.v (.int .i64 0),.v (.int .i64 0),.v (.int .i64 0),.v (.int .i64 0),.v (.bool false),.v (.bool false)],Body.of,Body.sv,λ_=>rfl⟩
structure aZ where
 kind:Int
 v0:Int
 v1:Int
 v2:Int
 v3:Int
def aZ.cells(b:aZ):List SV:=[.v (.int .u8 b.kind),.v (.int .i64 b.v0),.v (.int .i64 b.v1),.v (.int .i64 b.v2),.v (.int .i64 b.v3)]
def aZ.sv(b:aZ):SV:=.agg b.cells
def aZ.of(x:SV):aZ:=⟨(YQ x.al).iv,(YQ (Yz x.al)).iv,(YQ (Yz (Yz x.al))).iv,(YQ (Yz (Yz (Yz x.al)))).iv,(YQ (Yz (Yz (Yz (Yz x.al))))).iv⟩
def JW:List SV:=[.v (.int .u8 0),.v (.int .i64 0),.v (.int .i64 0),.v (.int .i64 0),.v (.int .i64 0)]
def gE:Rd aZ:=⟨.agg JW,aZ.of,aZ.sv,λ_=>rfl⟩
structure Zp where
 n:Nat
 c:Nat->aZ
def Zp.sv(l:Zp):SV:=.rs 5 l.n λi=>(l.c i).cells
def Zp.of(x:SV):Zp:=⟨x.rn,λi=>aZ.of (.agg (x.rf i))⟩
def gU:Rd Zp:=⟨.rs 5 0 λ_=>JW,Zp.of,Zp.sv,λ_=>rfl⟩
structure XO where
 iD:Int
 l:Zp
def XO.cells(b:XO):List SV:=[.v (.int .i64 b.iD),b.l.sv]
def XO.sv(b:XO):SV:=.agg b.cells
def XO.of(x:SV):XO:=⟨(YQ x.al).iv,Zp.of (YQ (Yz x.al))⟩
def JV:List SV:=[.v (.int .i64 0),.rs 5 0 λ_=>JW]
def eE:Rd XO:=⟨.agg JV,XO.of,XO.sv,λ_=>rfl⟩
structure ZJ where
 n:Nat
 e:Nat->XO
def ZJ.sv(l:ZJ):SV:=.rs 2 l.n λi=>(l.e i).cells
def ZJ.of(x:SV):ZJ:=⟨x.rn,λi=>XO.of (.agg (x.rf i))⟩
def rh:Rd ZJ:=⟨.rs 2 0 λ_=>JV,ZJ.of,ZJ.sv,λ_=>rfl⟩
structure XU where
 tick:Int
 l:ZJ
def XU.cells(b:XU):List SV:=[.v (.int .i64 b.tick),b.l.sv]
def XU.sv(b:XU):SV:=.agg b.cells
def XU.of(x:SV):XU:=⟨(YQ x.al).iv,ZJ.of (YQ (Yz x.al))⟩
def cI:Rd XU:=⟨.agg [.v (.int .i64 0),.rs 2 0 λ_=>JV],XU.of,XU.sv,λ_=>rfl⟩
end Go.Proofs.YtmdpdknpapjchaaGreatDoor
