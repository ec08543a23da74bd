/- A symbolic executor with lists, 18: functions; contracts out of walks. A symbolic executor with lists, 19: readers of arguments. -/
import Derived.Test.YtgigkennhdolpaaGreatDoorM16
namespace Go.Proofs.YtgigkennhdolpaaGreatDoor
open Go.RowKit
def resD{PP:Program}(C:Cx PP)(st:St):ResultVar→Option SV
 | .tmp t=>opOut st.sl (.tmp t)
 | .cell x t=>match opOut st.sl (.tmp x) with
  | some (.p n off)=>loadD C st.H (.p n off) t
  | _=>none
def resL{PP:Program}(C:Cx PP)(st:St):List ResultVar→Option (List SV)
 | []=>some []
 | x::r=>match resD C st x,resL C st r with|some v,some l=>some (v::l)|_,_=>none
def finK{PP:Program}(C:Cx PP)(rs:List ResultVar)(st:St)(K:SV→Prop):Prop:=
 match resL C st rs with
 | none=>False
 | some [v]=>K v
 | some l=>K (.tup l)
section
variable {PP:Program}{C:Cx PP}{Γ:List (Con C)}{nt:Nat}{w0:World}{ρe:Names}{I:Inl}{inls:List Nat}
theorem run_of_load{P:Program}{a:Act}{W:World}{t:TypeId}{x:Operand}{v:Value}{dst:Option Tmp}{ty:TypeId}{pos:String}{after:Array Edge}{guard:Option (Nat×Bool)}{p:Addr}
  (hx:a.eval x=.pointer (some p)) (h:(execOp a.eval ⟨dst,.load t x,ty,pos,after,guard⟩).run P W=.ok (.value v) W):(loadVar t p).run P W=.ok v W:=by
 simp only[execOp,hx,Instr.loadAt,Instr.sureAddr,Sem.run_bind,Sem.run_pure,Result.andThen_ok] at h
 cases hr:(loadVar t p).run P W with
 | ok u W'=>
  rw[hr] at h
  simp only[Result.andThen_ok] at h
  injection h with h1 h2
  injection h1 with h1
  rw[h1,h2]
 | halt x W'=>rw[hr] at h;cases h
def resOne(tmps:Array Value):ResultVar→Sem Value
 | .tmp t=>pure (tmps.getD t undef)
 | .cell a t=>do loadVar t (←asAddr (tmps.getD a undef))
theorem resD_ok{st:St}{ρ:Names}{a:Act}{W:World}(h:Rp C nt w0 ρe st ρ a W){x:ResultVar}{v:SV}(e:resD C st x=some v) :
  ∃u,den ρ v u∧(resOne a.tmps x).run C.P W=.ok u W:=by
 cases x with
 | tmp t=>exact⟨_,gh (x:=.tmp t) h e,rfl⟩
 | cell b t=>
  simp only[resD] at e
  split at e
  ·rename_i n off hb
   have hx:=gh h hb
   obtain⟨u,k1,k2⟩:=loadD_ok (dst:=none) (ty:=0) (pos:= "") (after:=#[]) (guard:=none) (y:=.tmp b) h.base.hok e hx
   obtain⟨m,hm,e2⟩:=hx
   refine⟨u,k1,?_⟩
   have e3:a.tmps.getD b undef=.pointer (some ⟨m,off,none⟩):=e2
   simp only[resOne,e3,asAddr,Sem.run_bind,Sem.run_pure,Result.andThen_ok]
   exact run_of_load e2 k2
  ·cases e
theorem resL_ok{st:St}{ρ:Names}{a:Act}{W:World}(h:Rp C nt w0 ρe st ρ a W):∀{rs:List ResultVar}{l:List SV},resL C st rs=some l→
  ∃us,aj ρ l us∧(rs.mapM (resOne a.tmps)).run C.P W=.ok us W
 | [],l,e=>by
  obtain rfl:=Oi e
  exact⟨[],rfl,rfl⟩
 | x::r,l,e=>by
  simp only[resL] at e
  split at e
  ·rename_i v m hv hm
   obtain rfl:=Oi e
   obtain⟨u,k1,k2⟩:=resD_ok h hv
   obtain⟨us,k3,k4⟩:=resL_ok h hm
   refine⟨u::us,aM k1 k3,?_⟩
   rw[List.mapM_cons]
   simp only[Sem.run_bind,k2,Result.andThen_ok,k4,Sem.run_pure]
  ·cases e
theorem ou{fn:Func}{a:Act}{W:World}{us:List Value}{P:Program}(h:(fn.results.toList.mapM (resOne a.tmps)).run P W=.ok us W) :
  (results fn a.tmps).run P W=.ok (if h:us.toArray.size=1 then us.toArray[0] else .tuple us.toArray) W:=by
 have e:results fn a.tmps=(fn.results.mapM (resOne a.tmps) >>= fun vs=>pure (if h:vs.size=1 then vs[0] else .tuple vs)):=rfl
 rw[e,Array.mapM_eq_mapM_toList]
 simp only[Sem.run_bind,Sem.run_map,h,Result.andThen_ok,Sem.run_pure]
def cu:Nat→List SV→List (Nat×Slot)
 | _,[]=>[]
 | k,v::r=>(k,⟨0,0,[],v⟩)::cu (k+1) r
theorem eR:∀{l:List SV}{k t:Nat}{s:Slot},look (cu k l) t=some s→∃i v,t=k+i∧l[i]? = some v∧s=⟨0,0,[],v⟩
 | [],k,t,s,h=>by cases h
 | v::r,k,t,s,h=>by
  by_cases e:k=t
  ·subst e
   simp only[cu] at h
   rw[af] at h
   exact⟨0,v,rfl,rfl,(Oi h).symm⟩
  ·simp only[cu] at h
   rw[ae _ _ e] at h
   obtain⟨i,u,h1,h2,h3⟩:=eR h
   exact⟨i+1,u,by omega,by simpa using h2,h3⟩
def endK{PP:Program}(C:Cx PP)(rs:List ResultVar)(K:SV→bd→Nat→Prop):Ex→St→Prop
 | .exit _,_=>False
 | .normal,st=>finK C rs st fun v=>K v st.H st.nm
 | .ret,st=>finK C rs st fun v=>K v st.H st.nm
theorem end_ok{nt:Nat}{rs:Array ResultVar}{fn:Func}(hrs:fn.results=rs){st:St}{ρ:Names}{a':Act}{W':World}{K:SV→bd→Nat→Prop}(hr:Rp C nt w0 ρe st ρ a' W')(hk:finK C rs.toList st (fun v=>K v st.H st.nm)) :
  ∃v,(results fn a'.tmps).run C.P W'=.ok v W'∧∃v' H' nm',K v' H' nm'∧Mem C w0 ρe nm' ρ W'∧(∀n sb,look H' n=some sb→da ρ W' n sb)∧den ρ v' v:=by
 subst hrs
 unfold finK at hk
 split at hk
 ·exact hk.elim
 ·rename_i v hl
  obtain⟨us,k1,k2⟩:=resL_ok hr hl
  obtain⟨u,us',rfl,k3,k4⟩:=aG k1
  obtain rfl:=ca k4
  exact⟨u,ou k2,v,st.H,st.nm,hk,hr.base.mem,hr.base.blk,k3⟩
 ·rename_i l hne hl
  obtain⟨us,k1,k2⟩:=resL_ok hr hl
  have hne':¬us.toArray.size=1:=by
   intro e
   have hlen:=aE k1
   have:l.length=1:=by rw[←hlen];simpa using e
   match l,this with
   | [v],_=>exact hne v rfl
  exact⟨.tuple us.toArray,by rw[ou k2,dif_neg hne'],.tup l,st.H,st.nm,hk,hr.base.mem,hr.base.blk,us,k1,rfl⟩
theorem fM{f:FuncId}{fn:Func}{code:Code}{args:List SV}{vs:List Value}{H:bd}{nm:Nat}(h:How)(hI:gu C I)(hm:C.P.follows .mixedOrders=true)
  (hf:C.P.funcs[f]? = some fn) (hb:fn.body=some code) (hn:Nat.ble args.length fn.ntmps=true) (hB:fj h.fl code=true) (hH:HOk C H ρe w0) (hdom:∀n b,ρe.n n=some b→n<nm) (hdomv:∀e l,ρe.v e=some l→e<nm∧l.o<nm) (hdomk:∀m i l,ρe.k m i=some l→m<nm) (hargs:aj ρe args vs) (K:SV→bd→Nat→Prop)
  (he:ev Γ fn.ntmps nm I inls h code ⟨cu 0 args,H,nm,0,[],[]⟩ (endK C fn.results.toList K)) :
  bP C.P C.co f vs.toArray w0 fun e W'=>∃v val H' nm' ρ',e=.returned val∧K v H' nm'∧Mem C w0 ρe.noD nm' ρ' W'∧(∀n sb,look H' n=some sb→da ρ' W' n sb)∧den ρ' v val:=by
 have hlen:=aE hargs
 have hn:=Nat.le_of_ble_eq_true hn
 refine calls_of_wpJ hf hb ?_
 have hrp:Rp C fn.ntmps w0 ρe.noD ⟨cu 0 args,H,nm,0,[],[]⟩ ρe {tmps:=vs.toArray++Array.replicate (fn.ntmps-vs.toArray.size) undef,defers:=[]} w0:=by
  refine⟨⟨Mem.refl hH.hb hdom hdomv hdomk,hH.blk,by simp;omega,rfl⟩,fun t s hs=>?_,fun t s hs hg=>?_⟩
  ·obtain⟨i,v,-,-,rfl⟩:=eR hs
   exact Nat.le_refl _
  ·obtain⟨i,v,rfl,hv,rfl⟩:=eR hs
   obtain⟨u,h1,h2⟩:=eB hargs hv
   refine⟨u,h2,?_⟩
   have hl:i<vs.length:=(List.getElem?_eq_some_iff.1 h1).1
   rw[Nat.zero_add,Array.getElem?_append_left (by simpa using hl)]
   simpa using h1
 refine jX (fL (ρe:=ρe.noD) hI hm hdom hdomv hdomk code _ _ hB he _ _ _ hrp) ?_
 rintro e a' W' ⟨x,st,ρ,rfl,hk,hr⟩
 have key:finK C fn.results.toList st (fun v=>K v st.H st.nm)→a'.defers=[]∧∃v,(results fn a'.tmps).run C.P W'=.ok v W'∧∃v' val H' nm' ρ',Ending.returned v=.returned val∧K v' H' nm'∧Mem C w0 ρe.noD nm' ρ' W'∧(∀n sb,look H' n=some sb→da ρ' W' n sb)∧den ρ' v' val:=by
  intro hk
  obtain⟨v,h1,v',H',nm',h2,h3,h4,h5⟩:=end_ok rfl hr hk
  exact⟨hr.base.df,v,h1,v',v,H',nm',ρ,rfl,h2,h3,h4,h5⟩
 cases x with
 | normal=>exact key hk
 | exit i=>exact hk.elim
 | ret=>exact key hk
end
def fp(fl:List Nat)(fn:Func):Bool:=match fn.body with|some c=>fj fl c|none=>false
theorem dG{P:Program}{f:FuncId}{fn:Func}{fl:List Nat}(hf:P.funcs[f]? = some fn)(hB:fp fl fn=true)(args:Array Value):NS P (callFunc f args):=iB hf (by unfold fp at hB;cases h:fn.body with|none=>rw[h] at hB;cases hB|some c=>rfl) args
structure FnI {PP:Program} (C:Cx PP) where
 f:FuncId
 en:∀(args:Array Value) (w:World),(callFunc f args).run C.P w=.ok (.enter f args) w
 fn:Func
 hf:C.P.funcs[f]? = some fn
 fl:List Nat
 cuts:List Nat
 invs:List Nat
 fu:Nat
 hB:fp fl fn=true
def findI{PP:Program}{C:Cx PP} : List (FnI C)→Nat→Option (FnI C)
 | [],_=>none
 | c::r,n=>match Nat.beq c.f n with|true=>some c|false=>findI r n
theorem findI_f{PP:Program}{C:Cx PP} : ∀{l:List (FnI C)}{n:Nat}{c:FnI C},findI l n=some c→c.f=n
 | [],_,_,h=>by simp[findI] at h
 | d::r,n,c,h=>by
  simp only[findI] at h
  split at h
  ·rename_i hb
   obtain rfl:=Oi h
   exact Nb hb
  ·exact findI_f h
def gF{PP:Program}{C:Cx PP} : List (FnI C)→List Nat
 | []=>[]
 | c::r=>c.f::gF r
def ku{PP:Program}{C:Cx PP}(Γ:List (Con C))(Fs:List (FnI C)):Nat→Inl
 | 0=>fun _ _ _ _ _=>False
 | d+1=>fun f args H nm K=>match findI Fs f with
  | none=>False
  | some c=>match c.fn.body,Nat.ble args.length c.fn.ntmps with
   | some code,true=>ev Γ c.fn.ntmps nm (ku Γ Fs d) (gF Fs) ⟨c.fl,c.cuts,c.invs,c.fu⟩ code ⟨cu 0 args,H,nm,0,[],[]⟩ (endK C c.fn.results.toList K)
   | _,_=>False
theorem dH{PP:Program}{C:Cx PP}{Γ:List (Con C)}{Fs:List (FnI C)}(hm:C.P.follows .mixedOrders=true):∀d,gu C (ku Γ Fs d)
 | 0=>fun f args H nm K h=>h.elim
 | d+1=>fun f args H nm K h=>by
  simp only[ku] at h
  split at h
  ·exact h.elim
  ·rename_i c hc
   obtain rfl:=findI_f hc
   split at h
   ·rename_i code hb hn
    have hB:fj c.fl code=true:=by have:=c.hB;unfold fp at this;rw[hb] at this;exact this
    exact⟨c.en,dG c.hf c.hB,fun ρ W vs hH hdom hdomv hdomk hargs=>fM ⟨c.fl,c.cuts,c.invs,c.fu⟩ (dH hm d) hm c.hf hb hn hB hH hdom hdomv hdomk hargs K h⟩
   ·exact h.elim
def ai(out:SV)(H:bd)(v:SV):Prop:=match fzK H 4 [v] with
 | some [v']=>aH (vq 0 [] out v')
 | _=>False
def aX{PP:Program}{C:Cx PP}(Γ:List (Con C))(Fs:List (FnI C))(d:Nat)(h:How)(fn:Func)(args:List SV)(K:SV→bd→Nat→Prop):Prop:=
 match fn.body,Nat.ble args.length fn.ntmps with
 | some code,true=>ev Γ fn.ntmps 0 (ku Γ Fs d) (gF Fs) h code ⟨cu 0 args,[],0,0,[],[]⟩ (endK C fn.results.toList K)
 | _,_=>False
section
variable {PP:Program}{C:Cx PP}{Γ:List (Con C)}{Fs:List (FnI C)}{d:Nat}
theorem gU{ze:Nat→Nat→Value→Prop}{W:World}(hG:C.Grd W)(hz:∀b i c,ze b i c→W.cell? ⟨b,i,none⟩=some c∧c.oneCell'=true):HOk C [] (ba ze) W:=by
 have hno:∀n b,¬bX (ba ze) n b:=fun n b ho=>by
  rcases ho with ho|⟨e,l,o,h1,-⟩|⟨i,l,o,h1,-⟩
  ·cases ho
  ·cases h1
  ·cases h1
 have hno2:∀b,¬jU (ba ze).noD b:=fun b ho=>by
  rcases ho with ⟨n,ho⟩|ho
  ·exact hno n b ho
  ·exact ho
 exact⟨⟨fun n n' b h=>absurd h (hno n b),fun n b h=>absurd h (hno n b),hz,hG⟩,fun n sb h=>by cases h⟩
theorem fn_endR{ze:Nat→Nat→Value→Prop}{W W':World}{out v:SV}{val:Value}{H':bd}{nm':Nat}{ρ':Names}(hk:ai out H' v)(hmem:Mem C W (ba ze).noD nm' ρ' W')(hblk:∀n sb,look H' n=some sb→da ρ' W' n sb)(hden:den ρ' v val) :
  Gr W W'∧(∀b i c,(zR ρ' W').z b i c→(ze b i c∨W.heap.size≤b)∧W'.cell? ⟨b,i,none⟩=some c∧c.oneCell'=true)∧den (zR ρ' W') out val:=by
 have hno:∀n b,¬bX (ba ze) n b:=fun n b ho=>by
  rcases ho with ho|⟨e,l,o,h1,-⟩|⟨i,l,o,h1,-⟩
  ·cases ho
  ·cases h1
  ·cases h1
 have hno2:∀b,¬jU (ba ze).noD b:=fun b ho=>by
  rcases ho with ⟨n,ho⟩|ho
  ·exact hno n b ho
  ·exact ho
 have hH':HOk C H' ρ' W':=⟨hmem.hb,hblk⟩
 unfold ai at hk
 split at hk
 ·rename_i v' hv
  have hd:=fzK_ok hH' 4 [v] [v'] [val] hv (aM hden rfl)
  obtain⟨u,us,e1,e2,e3⟩:=aG hd
  obtain rfl:val=u:=by injection e1
  generalize hq:vq 0 [] out v'=q at hk
  cases q with
  | none=>exact hk.elim
  | some q=>
   have hd2:=vq_ok (nm:=0) (σ:=[]) (fun i j h=>by omega) out v' q hq hk _ _ e2
   refine⟨hmem.keep.to_gr hno2,fun b i c hz=>⟨?_,hz.1,hz.2.1⟩,bF (ρ:=gO 0 [] (zR ρ' W')) ⟨fun n b h=>?_,fun n b h=>?_,fun n i b h=>?_,fun _ _ _ h=>h⟩ _ _ hd2⟩
   ·rcases hz.2.2 with h1|⟨n,h1⟩
    ·rcases hmem.zold b i c h1 with h2|h2|h2
     ·exact .inl h2
     ·exact .inr h2
     ·exact absurd h2 (hno2 b)
    ·rcases hmem.old n b h1 with h2|h2
     ·exact absurd h2 (hno2 b)
     ·exact .inr h2
   ·have:=(gl h).1;omega
   ·have:=(fh h).1;omega
   ·have:=(c8 h).1;omega
 ·exact hk.elim
theorem fn_end{ze:Nat→Nat→Value→Prop}{W W':World}{out v:SV}{val:Value}{H':bd}{nm':Nat}{ρ':Names}(hk:ai out H' v)(hmem:Mem C W (ba ze).noD nm' ρ' W')(hblk:∀n sb,look H' n=some sb→da ρ' W' n sb)(hden:den ρ' v val) :
  ∃val2 z',Ending.returned val=.returned val2∧Gr W W'∧(∀b i c,z' b i c→(ze b i c∨W.heap.size≤b)∧W'.cell? ⟨b,i,none⟩=some c∧c.oneCell'=true)∧den (ba z') out val2:=
 let ⟨h1,h2,h3⟩:=fn_endR hk hmem hblk hden
 ⟨val,(zR ρ' W').z,rfl,h1,h2,h3⟩
theorem m8{f:FuncId}{fn:Func}{args:List SV}{vs:List Value}{ze:Nat→Nat→Value→Prop}{W:World}{out:SV}(h:How)(hm:C.P.follows .mixedOrders=true)
  (hf:C.P.funcs[f]? = some fn) (hB:fp h.fl fn=true) (hG:C.Grd W) (hz:∀b i c,ze b i c→W.cell? ⟨b,i,none⟩=some c∧c.oneCell'=true) (hargs:aj (ba ze) args vs)
  (he:aX Γ Fs d h fn args fun v H _=>ai out H v) :
  bP C.P C.co f vs.toArray W fun e W'=>∃val z',e=.returned val∧Gr W W'∧(∀b i c,z' b i c→(ze b i c∨W.heap.size≤b)∧W'.cell? ⟨b,i,none⟩=some c∧c.oneCell'=true)∧den (ba z') out val:=by
 unfold aX at he
 split at he
 rotate_left
 ·exact he.elim
 rename_i code hb hn
 have hB:fj h.fl code=true:=by unfold fp at hB;rw[hb] at hB;exact hB
 refine(fM h (dH hm d) hm hf hb hn hB (gU hG hz) (fun n b h=>by cases h) (fun e l h=>by cases h) (fun m i l h=>by cases h) hargs _ he).mono ?_
 rintro e W' ⟨v,val,H',nm',ρ',rfl,hk,hmem,hblk,hden⟩
 exact fn_end hk hmem hblk hden
def obO:List Prop→Option Prop
 | []=>none
 | l=>some (aK l)
theorem obO_ok{l:List Prop}(h:mb (obO l)):aK l:=by
 cases l with
 | nil=>trivial
 | cons p r=>exact h
structure Rds (α:Type) where
 ma:List SV
 dec:List SV→α
 enc:α→List SV
 ok:∀xs,enc (dec xs)=jnL false ma xs
def fE(out:SV)(H:bd)(v:SV):Prop:=match frS H v with
 | some (v',ps)=>match ps with
  | []=>aH (vq 0 [] out v')
  | p::r=>aK (p::r)∧aH (vq 0 [] out v')
 | none=>False
theorem resOutF_ok{out:SV}{H:bd}{v:SV}(h:fE out H v):∃v' ps,frS H v=some (v',ps)∧aK ps∧aH (vq 0 [] out v'):=by
 unfold fE at h
 split at h
 ·rename_i v' ps hv
  split at h
  ·exact⟨_,_,hv,trivial,h⟩
  ·exact⟨_,_,hv,h⟩
 ·exact h.elim
theorem fn_endF{ze:Nat→Nat→Value→Prop}{W W':World}{out v:SV}{val:Value}{H':bd}{nm':Nat}{ρ':Names}(hk:fE out H' v)(hmem:Mem C W (ba ze).noD nm' ρ' W')(hblk:∀n sb,look H' n=some sb→da ρ' W' n sb)(hden:den ρ' v val) :
  ∃val2 z',Ending.returned val=.returned val2∧Gr W W'∧(∀b i c,z' b i c→(ze b i c∨W.heap.size≤b)∧W'.cell? ⟨b,i,none⟩=some c∧c.oneCell'=true)∧den (ba z') out val2∧∀b i c,z' b i c→W.heap.size≤b:=by
 have hno:∀n b,¬bX (ba ze) n b:=fun n b ho=>by
  rcases ho with ho|⟨e,l,o,h1,-⟩|⟨i,l,o,h1,-⟩
  ·cases ho
  ·cases h1
  ·cases h1
 have hno2:∀b,¬jU (ba ze).noD b:=fun b ho=>by
  rcases ho with ⟨n,ho⟩|ho
  ·exact hno n b ho
  ·exact ho
 have hH':HOk C H' ρ' W':=⟨hmem.hb,hblk⟩
 obtain⟨v',ps,hv,hps,hk⟩:=resOutF_ok hk
 have e2:=frS_ok hH' v v' ps val hv hps hden
 generalize hq:vq 0 [] out v'=q at hk
 cases q with
 | none=>exact hk.elim
 | some q=>
  have hd2:=vq_ok (nm:=0) (σ:=[]) (fun i j h=>by omega) out v' q hq hk _ _ e2
  have hnew:∀b i c,(zO ρ' W').z b i c→W.heap.size≤b:=fun b i c hz=>by
   obtain⟨-,-,n,h1⟩:=hz
   rcases hmem.old n b h1 with h2|h2
   ·exact absurd h2 (hno2 b)
   ·exact h2
  refine⟨val,(zO ρ' W').z,rfl,hmem.keep.to_gr hno2,fun b i c hz=>⟨.inr (hnew b i c hz),hz.1,hz.2.1⟩,bF (ρ:=gO 0 [] (zO ρ' W')) ⟨fun n b h=>?_,fun n b h=>?_,fun n i b h=>?_,fun _ _ _ h=>h⟩ _ _ hd2,hnew⟩
  ·have:=(gl h).1;omega
  ·have:=(fh h).1;omega
  ·have:=(c8 h).1;omega
theorem calls_fnF{f:FuncId}{fn:Func}{args:List SV}{vs:List Value}{ze:Nat→Nat→Value→Prop}{W:World}{out:SV}(h:How)(hm:C.P.follows .mixedOrders=true)
  (hf:C.P.funcs[f]? = some fn) (hB:fp h.fl fn=true) (hG:C.Grd W) (hz:∀b i c,ze b i c→W.cell? ⟨b,i,none⟩=some c∧c.oneCell'=true) (hargs:aj (ba ze) args vs)
  (he:aX Γ Fs d h fn args fun v H _=>fE out H v) :
  bP C.P C.co f vs.toArray W fun e W'=>∃val z',e=.returned val∧Gr W W'∧(∀b i c,z' b i c→(ze b i c∨W.heap.size≤b)∧W'.cell? ⟨b,i,none⟩=some c∧c.oneCell'=true)∧den (ba z') out val∧∀b i c,z' b i c→W.heap.size≤b:=by
 unfold aX at he
 split at he
 rotate_left
 ·exact he.elim
 rename_i code hb hn
 have hB:fj h.fl code=true:=by unfold fp at hB;rw[hb] at hB;exact hB
 refine(fM h (dH hm d) hm hf hb hn hB (gU hG hz) (fun n b h=>by cases h) (fun e l h=>by cases h) (fun m i l h=>by cases h) hargs _ he).mono ?_
 rintro e W' ⟨v,val,H',nm',ρ',rfl,hk,hmem,hblk,hden⟩
 exact fn_endF hk hmem hblk hden
def mkCon{α:Type}(f:FuncId)(en:∀(args:Array Value)(w:World),(callFunc f args).run C.P w=.ok (.enter f args) w)(hns:∀args:Array Value,NS C.P (callFunc f args))(R:Rds α)(pre:α→List Prop)(out:α→SV)
  (h:∀(a:α) (ze:Nat→Nat→Value→Prop) (W:World) (vs:List Value),aK (pre a)→C.Grd W→(∀b i c,ze b i c→W.cell? ⟨b,i,none⟩=some c∧c.oneCell'=true)→aj (ba ze) (R.enc a) vs→
   bP C.P C.co f vs.toArray W fun e W'=>∃val z',e=.returned val∧Gr W W'∧(∀b i c,z' b i c→(ze b i c∨W.heap.size≤b)∧W'.cell? ⟨b,i,none⟩=some c∧c.oneCell'=true)∧den (ba z') (out a) val):Con C where
 f:=f
 en:=en
 ns:=hns
 run:=fun args=>match eF R.ma args with|some l=>some (obO (l++pre (R.dec args)),out (R.dec args))|none=>none
 fresh:=false
 own:=none
 ok:=by
  intro ze W args vs ob o hG hz hd hr ho
  split at hr
  ·rename_i l hl
   obtain⟨rfl,rfl⟩:=Prod.mk.inj (Oi hr)
   obtain⟨c1,c2⟩:=bV (obO_ok ho)
   refine(h (R.dec args) ze W vs c2 hG hz ?_).mono (fun e W' ⟨val,z',h1,h2,h3,h4⟩=>⟨val,z',h1,h2,h3,h4,(fun c=>by cases c),fun t c=>by cases c⟩)
   rw[R.ok]
   exact cg _ _ _ (eZ _ _ l hl c1) hd
  ·cases hr
def ah{α:Type}(f:FuncId)(en:∀(args:Array Value)(w:World),(callFunc f args).run C.P w=.ok (.enter f args) w)(R:Rds α)(pre:α→List Prop)(out:α→SV)(h:α→How)(fl:List Nat)(hfl:∀a,(h a).fl=fl)(hm:C.P.follows .mixedOrders=true){fn:Func}
  (hf:C.P.funcs[f]? = some fn) (hB:fp fl fn=true) (he:∀a,aK (pre a)→aX Γ Fs d (h a) fn (R.enc a) fun v H _=>ai (out a) H v):Con C:=
 mkCon f en (dG hf hB) R pre out fun a ze W vs hp hG hz hd=>m8 (h a) hm hf (by rw[hfl];exact hB) hG hz hd (he a hp)
def mkConF{α:Type}(f:FuncId)(en:∀(args:Array Value)(w:World),(callFunc f args).run C.P w=.ok (.enter f args) w)(hns:∀args:Array Value,NS C.P (callFunc f args))(R:Rds α)(pre:α→List Prop)(out:α→SV)
  (h:∀(a:α) (ze:Nat→Nat→Value→Prop) (W:World) (vs:List Value),aK (pre a)→C.Grd W→(∀b i c,ze b i c→W.cell? ⟨b,i,none⟩=some c∧c.oneCell'=true)→aj (ba ze) (R.enc a) vs→
   bP C.P C.co f vs.toArray W fun e W'=>∃val z',e=.returned val∧Gr W W'∧(∀b i c,z' b i c→(ze b i c∨W.heap.size≤b)∧W'.cell? ⟨b,i,none⟩=some c∧c.oneCell'=true)∧den (ba z') (out a) val∧∀b i c,z' b i c→W.heap.size≤b):Con C where
 f:=f
 en:=en
 ns:=hns
 run:=fun args=>match eF R.ma args with|some l=>some (obO (l++pre (R.dec args)),out (R.dec args))|none=>none
 fresh:=true
 own:=none
 ok:=by
  intro ze W args vs ob o hG hz hd hr ho
  split at hr
  ·rename_i l hl
   obtain⟨rfl,rfl⟩:=Prod.mk.inj (Oi hr)
   obtain⟨c1,c2⟩:=bV (obO_ok ho)
   refine(h (R.dec args) ze W vs c2 hG hz ?_).mono (fun e W' ⟨val,z',h1,h2,h3,h4,h5⟩=>⟨val,z',h1,h2,h3,h4,(fun _=>h5),fun t c=>by cases c⟩)
   rw[R.ok]
   exact cg _ _ _ (eZ _ _ l hl c1) hd
  ·cases hr
def jZ{α:Type}(f:FuncId)(en:∀(args:Array Value)(w:World),(callFunc f args).run C.P w=.ok (.enter f args) w)(R:Rds α)(pre:α→List Prop)(out:α→SV)(h:α→How)(fl:List Nat)(hfl:∀a,(h a).fl=fl)(hm:C.P.follows .mixedOrders=true){fn:Func}
  (hf:C.P.funcs[f]? = some fn) (hB:fp fl fn=true) (he:∀a,aK (pre a)→aX Γ Fs d (h a) fn (R.enc a) fun v H _=>fE (out a) H v):Con C:=
 mkConF f en (dG hf hB) R pre out fun a ze W vs hp hG hz hd=>calls_fnF (h a) hm hf (by rw[hfl];exact hB) hG hz hd (he a hp)
def ownOut1(szo no:Nat)(fo:Nat→List SV)(t0:TypeId)(H:bd)(v:SV):Prop:=match v with
 | .e=>no=0
 | .v (.slice _ 0 0)=>no=0
 | .g m e sz off n=>match off with
  | 0=>match look H m with
   | some (.lst e' sz' _ f t)=>e=e'∧sz'=szo∧t=t0∧no=n∧∀i,i<n→eI (fo i)=true∧fo i=f i
   | _=>False
  | _=>False
 | _=>False
def ownOut(out:SV)(t0:TypeId)(H:bd)(v:SV):Prop:=match out with
 | .rs szo no fo=>ownOut1 szo no fo t0 H v
 | .agg [x,.rs szo no fo]=>match v with
  | .agg [x',v']=>flatS x=true∧x=x'∧ownOut1 szo no fo t0 H v'
  | _=>False
 | _=>False
def resOutO(out:SV)(t0:TypeId)(H:bd)(v:SV):Prop:=fE out H v∧ownOut out t0 H v
theorem ownOut1_ok{ze:Nat→Nat→Value→Prop}{W W':World}{v:SV}{szo no:Nat}{fo:Nat→List SV}{t0:TypeId}{val:Value}{H':bd}{nm':Nat}{ρ':Names}(hk:ownOut1 szo no fo t0 H' v)(hmem:Mem C W (ba ze).noD nm' ρ' W')(hblk:∀n sb,look H' n=some sb→da ρ' W' n sb){zz:Nat→Nat→Value→Prop}(hden:den ρ' v val):OwnL zz W W' val szo no fo t0:=by
 have hno2:∀b,¬jU (ba ze).noD b:=fun b ho=>by
  rcases ho with ⟨n,ho⟩|ho
  ·rcases ho with ho|⟨e,l,o,h1,-⟩|⟨i,l,o,h1,-⟩
   ·cases ho
   ·cases h1
   ·cases h1
  ·exact ho
 unfold ownOut1 at hk
 split at hk
 ·obtain⟨a,rfl⟩:=hden
  subst hk
  exact⟨a,0,fun _ _ _=>False,fun _ _ _ h=>h.elim,rfl,Nat.le_refl _,fun h=>absurd rfl h⟩
 ·rename_i a
  obtain rfl:val=.slice a 0 0:=hden
  subst hk
  exact⟨a,0,fun _ _ _=>False,fun _ _ _ h=>h.elim,rfl,Nat.le_refl _,fun h=>absurd rfl h⟩
 ·rename_i m e sz off n
  split at hk
  ·split at hk
   ·rename_i e' sz' N f t hl
    obtain⟨rfl,rfl,rfl,rfl,hf⟩:=hk
    obtain⟨l,h1,h2,h3,h4,h5⟩:=hblk _ _ hl
    obtain⟨l',k1,k2,k3,k4,a',rfl,k6⟩:=hden
    obtain rfl:l=l':=by rw[h1] at k1;exact Oi k1
    refine⟨a',l.cap,fun _ _ _=>False,fun _ _ _ h=>h.elim,by simp,by omega,fun hc=>?_⟩
    obtain⟨b,u,q1,q2,q3,q4,q5,q6⟩:=h5 hc
    obtain⟨b',p1,p2⟩:=k6 (by simpa using hc)
    obtain rfl:b=b':=by rw[q1] at p1;injection p1 with p1;injection p1
    refine⟨b,u,by rw[p2];simp,?_,q2,q3,q4,fun _ _ h=>h,fun i hi=>?_⟩
    ·rcases hmem.old m b (.inr (.inl ⟨e,l,0,h1,h2,hc,q1⟩)) with h|h
     ·exact absurd h (hno2 b)
     ·exact h
    ·obtain⟨us,r1,r2,r3⟩:=q6 i (by omega)
     obtain⟨s1,s2⟩:=hf i hi
     refine⟨us,?_,r2,r3⟩
     rw[←s2] at r1
     exact dA _ _ s1 r1
   ·exact hk.elim
  ·exact hk.elim
 ·exact hk.elim
theorem ownOut_ok{ze:Nat→Nat→Value→Prop}{W W':World}{out v:SV}{t0:TypeId}{val:Value}{H':bd}{nm':Nat}{ρ':Names}(hk:ownOut out t0 H' v)(hmem:Mem C W (ba ze).noD nm' ρ' W')(hblk:∀n sb,look H' n=some sb→da ρ' W' n sb){zz:Nat→Nat→Value→Prop}(hden:den ρ' v val):OwnO zz W W' val t0 out:=by
 unfold ownOut at hk
 split at hk
 ·exact ownOut1_ok hk hmem hblk hden
 ·split at hk
  ·obtain⟨h1,rfl,h2⟩:=hk
   obtain⟨us,⟨u,w,rfl,d1,v,w2,rfl,d2,rfl⟩,rfl⟩:=hden
   exact⟨u,v,rfl,kB _ _ h1 d1,ownOut1_ok h2 hmem hblk d2⟩
  ·exact hk.elim
 ·exact hk.elim
theorem calls_fnO{f:FuncId}{fn:Func}{args:List SV}{vs:List Value}{ze:Nat→Nat→Value→Prop}{W:World}{out:SV}{t0:TypeId}(h:How)(hm:C.P.follows .mixedOrders=true)
  (hf:C.P.funcs[f]? = some fn) (hB:fp h.fl fn=true) (hG:C.Grd W) (hz:∀b i c,ze b i c→W.cell? ⟨b,i,none⟩=some c∧c.oneCell'=true) (hargs:aj (ba ze) args vs)
  (he:aX Γ Fs d h fn args fun v H _=>resOutO out t0 H v) :
  bP C.P C.co f vs.toArray W fun e W'=>∃val z',e=.returned val∧Gr W W'∧(∀b i c,z' b i c→(ze b i c∨W.heap.size≤b)∧W'.cell? ⟨b,i,none⟩=some c∧c.oneCell'=true)∧den (ba z') out val∧(∀b i c,z' b i c→W.heap.size≤b)∧OwnO z' W W' val t0 out:=by
 unfold aX at he
 split at he
 rotate_left
 ·exact he.elim
 rename_i code hb hn
 have hB:fj h.fl code=true:=by unfold fp at hB;rw[hb] at hB;exact hB
 refine(fM h (dH hm d) hm hf hb hn hB (gU hG hz) (fun n b h=>by cases h) (fun e l h=>by cases h) (fun m i l h=>by cases h) hargs _ he).mono ?_
 rintro e W' ⟨v,val,H',nm',ρ',rfl,⟨hk,hko⟩,hmem,hblk,hden⟩
 obtain⟨val2,z',e1,h2,h3,h4,h5⟩:=fn_endF hk hmem hblk hden
 obtain rfl:val=val2:=by injection e1
 exact⟨val,z',rfl,h2,h3,h4,h5,ownOut_ok hko hmem hblk hden⟩
def ownOut2(szo no:Nat)(fo:Nat→List SV)(t0:TypeId)(H:bd)(v:SV):Prop:=match v with
 | .e=>no=0
 | .v (.slice _ 0 0)=>no=0
 | .g m e sz off n=>match off with
  | 0=>match look H m with
   | some (.lst e' sz' _ f t)=>e=e'∧sz'=szo∧t=t0∧no=n∧∀i,i<n→fo i=f i
   | _=>False
  | _=>False
 | _=>False
theorem ownOut2_ok{ze:Nat→Nat→Value→Prop}{W W':World}{v:SV}{szo no:Nat}{fo:Nat→List SV}{t0:TypeId}{val:Value}{H':bd}{nm':Nat}{ρ':Names}(hk:ownOut2 szo no fo t0 H' v)(hmem:Mem C W (ba ze).noD nm' ρ' W')(hblk:∀n sb,look H' n=some sb→da ρ' W' n sb)(hden:den ρ' v val):OwnL (zR ρ' W').z W W' val szo no fo t0:=by
 have hno2:∀b,¬jU (ba ze).noD b:=fun b ho=>by
  rcases ho with ⟨n,ho⟩|ho
  ·rcases ho with ho|⟨e,l,o,h1,-⟩|⟨i,l,o,h1,-⟩
   ·cases ho
   ·cases h1
   ·cases h1
  ·exact ho
 have hz0:∀b i c,ρ'.z b i c→(zR ρ' W').z b i c:=fun b i c h=>⟨(hmem.hb.zok b i c h).1,(hmem.hb.zok b i c h).2,.inl h⟩
 unfold ownOut2 at hk
 split at hk
 ·obtain⟨a,rfl⟩:=hden
  subst hk
  exact⟨a,0,fun _ _ _=>False,fun _ _ _ h=>h.elim,rfl,Nat.le_refl _,fun h=>absurd rfl h⟩
 ·rename_i a
  obtain rfl:val=.slice a 0 0:=hden
  subst hk
  exact⟨a,0,fun _ _ _=>False,fun _ _ _ h=>h.elim,rfl,Nat.le_refl _,fun h=>absurd rfl h⟩
 ·rename_i m e sz off n
  split at hk
  ·split at hk
   ·rename_i e' sz' N f t hl
    obtain⟨rfl,rfl,rfl,rfl,hf⟩:=hk
    obtain⟨l,h1,h2,h3,h4,h5⟩:=hblk _ _ hl
    obtain⟨l',k1,k2,k3,k4,a',rfl,k6⟩:=hden
    obtain rfl:l=l':=by rw[h1] at k1;exact Oi k1
    refine⟨a',l.cap,ρ'.z,hz0,by simp,by omega,fun hc=>?_⟩
    obtain⟨b,u,q1,q2,q3,q4,q5,q6⟩:=h5 hc
    obtain⟨b',p1,p2⟩:=k6 (by simpa using hc)
    obtain rfl:b=b':=by rw[q1] at p1;injection p1 with p1;injection p1
    refine⟨b,u,by rw[p2];simp,?_,q2,q3,q4,q5,fun i hi=>?_⟩
    ·rcases hmem.old m b (.inr (.inl ⟨e,l,0,h1,h2,hc,q1⟩)) with h|h
     ·exact absurd h (hno2 b)
     ·exact h
    ·obtain⟨us,r1,r2,r3⟩:=q6 i (by omega)
     exact⟨us,by rw[hf i hi];exact r1,r2,r3⟩
   ·exact hk.elim
  ·exact hk.elim
 ·exact hk.elim
def mkConO{α:Type}(f:FuncId)(en:∀(args:Array Value)(w:World),(callFunc f args).run C.P w=.ok (.enter f args) w)(hns:∀args:Array Value,NS C.P (callFunc f args))(R:Rds α)(pre:α→List Prop)(out:α→SV)(t0:TypeId)
  (h:∀(a:α) (ze:Nat→Nat→Value→Prop) (W:World) (vs:List Value),aK (pre a)→C.Grd W→(∀b i c,ze b i c→W.cell? ⟨b,i,none⟩=some c∧c.oneCell'=true)→aj (ba ze) (R.enc a) vs→
   bP C.P C.co f vs.toArray W fun e W'=>∃val z',e=.returned val∧Gr W W'∧(∀b i c,z' b i c→(ze b i c∨W.heap.size≤b)∧W'.cell? ⟨b,i,none⟩=some c∧c.oneCell'=true)∧den (ba z') (out a) val∧(∀b i c,z' b i c→W.heap.size≤b)∧OwnO z' W W' val t0 (out a)):Con C where
 f:=f
 en:=en
 ns:=hns
 run:=fun args=>match eF R.ma args with|some l=>some (obO (l++pre (R.dec args)),out (R.dec args))|none=>none
 fresh:=true
 own:=some t0
 ok:=by
  intro ze W args vs ob o hG hz hd hr ho
  split at hr
  ·rename_i l hl
   obtain⟨rfl,rfl⟩:=Prod.mk.inj (Oi hr)
   obtain⟨c1,c2⟩:=bV (obO_ok ho)
   refine(h (R.dec args) ze W vs c2 hG hz ?_).mono (fun e W' ⟨val,z',h1,h2,h3,h4,h5,h6⟩=>⟨val,z',h1,h2,h3,h4,(fun _=>h5),fun t c=>by cases c;exact h6⟩)
   rw[R.ok]
   exact cg _ _ _ (eZ _ _ l hl c1) hd
  ·cases hr
def walkConO{α:Type}(f:FuncId)(en:∀(args:Array Value)(w:World),(callFunc f args).run C.P w=.ok (.enter f args) w)(R:Rds α)(pre:α→List Prop)(out:α→SV)(t0:TypeId)(h:α→How)(fl:List Nat)(hfl:∀a,(h a).fl=fl)(hm:C.P.follows .mixedOrders=true){fn:Func}
  (hf:C.P.funcs[f]? = some fn) (hB:fp fl fn=true) (he:∀a,aK (pre a)→aX Γ Fs d (h a) fn (R.enc a) fun v H _=>resOutO (out a) t0 H v):Con C:=
 mkConO f en (dG hf hB) R pre out t0 fun a ze W vs hp hG hz hd=>calls_fnO (h a) hm hf (by rw[hfl];exact hB) hG hz hd (he a hp)
end
structure Rd (α:Type) where
 pat:SV
 dec:SV→α
 enc:α→SV
 ok:∀x,enc (dec x)=jn false pat x
def rdI(k:IntKind):Rd Int:=⟨.v (.int k 0),SV.iv,fun n=>.v (.int k n),fun _=>rfl⟩
def rdB:Rd Bool:=⟨.v (.bool false),SV.bv,fun n=>.v (.bool n),fun _=>rfl⟩
def rdX:Rd SV:=⟨.e,id,id,fun _=>rfl⟩
structure Fam where
 n:Nat
 g:Nat→Int
def rdF(k:IntKind):Rd Fam:=⟨.rs 1 0 fun _=>[.v (.int k 0)],fun x=>⟨x.rn,fun i=>(hdS (x.rf i)).iv⟩,fun f=>.rs 1 f.n fun i=>[.v (.int k (f.g i))],fun _=>rfl⟩
section
variable {α β γ δ ε:Type}
def rds0:Rds Unit:=⟨[],fun _=>(),fun _=>[],fun _=>rfl⟩
def bM(a:Rd α):Rds α:=⟨[a.pat],fun xs=>a.dec (hdS xs),fun x=>[a.enc x],fun xs=>by simp only[a.ok];rfl⟩
def aV(a:Rd α)(b:Rd β):Rds (α×β):=⟨[a.pat,b.pat],fun xs=>(a.dec (hdS xs),b.dec (hdS (tlS xs))),fun x=>[a.enc x.1,b.enc x.2],fun xs=>by simp only[a.ok,b.ok];rfl⟩
def dO(a:Rd α)(b:Rd β)(c:Rd γ):Rds (α×β×γ):=⟨[a.pat,b.pat,c.pat],fun xs=>(a.dec (hdS xs),b.dec (hdS (tlS xs)),c.dec (hdS (tlS (tlS xs)))),fun x=>[a.enc x.1,b.enc x.2.1,c.enc x.2.2],fun xs=>by simp only[a.ok,b.ok,c.ok];rfl⟩
end
def aw:How:=⟨[],[],[],0⟩
end Go.Proofs.YtgigkennhdolpaaGreatDoor
