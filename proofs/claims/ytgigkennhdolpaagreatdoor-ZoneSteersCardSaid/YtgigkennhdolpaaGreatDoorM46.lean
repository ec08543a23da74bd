/- Company, 52: the contract of workers.Parallel: one worker, no Systems. workers.All, zone.Tick (in company). law 30's awake (in company). -/
import Derived.Test.YtgigkennhdolpaaGreatDoorM45
import Derived.Test.YtgigkennhdolpaaGreatDoorM30
import Derived.Test.YtgigkennhdolpaaGreatDoorM36
import Derived.Test.YtgigkennhdolpaaGreatDoorM38
import Derived.Test.YtgigkennhdolpaaGreatDoorM37
namespace Go.Proofs.YtgigkennhdolpaaGreatDoor
open Go.Conc Go.RowKit
set_option maxHeartbeats 2000000
section
variable {PP:Program}{C:Cx PP}{nt:Nat}{w0:World}{ρe:Names}
theorem nP{st:St}{ρ:Names}{a:Act}{W:World}(hR:Rp C nt w0 ρe st ρ a W){t:Nat}{v:SV}(h:Has st t v):∃x,den ρ v x∧a.tmps[t]? = some x:=by
 obtain⟨q,h1,rfl,h3⟩:=h
 exact hR.de t q h1 h3
end
section
variable {w:Wor}{x:Stp}{st:St}{w0:World}{ρe ρ:Names}{a:Act}{W:World}
theorem par_at(P:PreOk w x st)(hx:x.systems.n=0)(hR:Rp cxP 62 w0 ρe st ρ a W){b3 b4 b9 b10:Nat}(e3:ρ.n 0=some b3)(e4:ρ.n 1=some b4)(e9:ρ.n 4=some b9)(e10:ρ.n 6=some b10):Nonempty (ParAt W w.l.n b4 b3 b9 b10):=by
 have one:∀{n b b':Nat},ρ.n n=some b→ρ.n n=some b'→b=b':=fun h1 h2=>Oi (h1.symm.trans h2)
 obtain⟨q0,vs0,n0,d0,k0,-,-⟩:=hR.base.blk _ _ P.h0
 obtain⟨q1,vs1,n1,d1,k1,-,-⟩:=hR.base.blk _ _ P.h1
 obtain⟨q4,vs4,n4,d4,k4,-,-⟩:=hR.base.blk _ _ P.h4
 obtain⟨q6,vs6,n6,d6,k6,-,-⟩:=hR.base.blk _ _ P.h6
 obtain⟨l3,v3,o3,N3,c3,r3⟩:=hR.base.blk _ _ P.h3
 obtain⟨l5,v5,o5,N5,c5,r5⟩:=hR.base.blk _ _ P.h5
 obtain rfl:=one e3 n0
 obtain rfl:=one e4 n1
 obtain rfl:=one e9 n4
 obtain rfl:=one e10 n6
 obtain⟨x0,y0,rfl,rfl,x1,y1,rfl,dw,rfl⟩:=d0
 obtain⟨ad,cap,rfl,-,-⟩:=dw
 obtain⟨x0,y0,rfl,⟨aS0,ks,rfl,-,-⟩,x1,y1,rfl,⟨ap,kp,rfl,-,-⟩,x2,y2,rfl,rfl,x3,y3,rfl,rfl,rfl⟩:=d1
 have k1:W.heap[b4]? = some (.cells #[.slice aS0 0 ks,.slice ap x.progs.n kp,.int .u64 x.seed,.int .i64 x.fuel] 33 (0,0)):=by rw[hx] at k1;exact k1
 obtain⟨x0,y0,rfl,rfl,x1,y1,rfl,dg,rfl⟩:=d4
 obtain⟨l,g1,g2,g3,g4,sp,rfl,g6⟩:=dg
 obtain rfl:l3=l:=Oi (v3.symm.trans g1)
 obtain⟨x0,y0,rfl,df,rfl⟩:=d6
 obtain⟨l',f1,f2,f3,f4,sf,rfl,f6⟩:=df
 obtain rfl:l5=l':=Oi (v5.symm.trans f1)
 have cE:0<w.l.n→∃be u,sp=some ⟨be,0,none⟩∧Blk W be u 42∧∀i,i<w.l.n→∃id p n k,u[0+i*2]? = some (.int .i64 id)∧u[0+i*2+1]? = some (.slice p n k):=fun hN=>by
  obtain⟨be,u,ha,hk,-,-,-,hel⟩:=r3 (by omega)
  obtain⟨be',ha',hsp⟩:=g6 (by omega)
  rw[ha] at ha'
  obtain rfl:be=be':=by injection ha' with x;injection x
  refine⟨be,u.toArray,by rw[hsp],hk,fun i hi=>?_⟩
  obtain⟨us,hd,-,hc⟩:=hel i hi
  obtain⟨p0,t0,rfl,rfl,p1,t1,rfl,⟨ad2,cap2,rfl,-,-⟩,rfl⟩:=hd
  refine⟨(w.l.e i).iD,ad2,(w.l.e i).l.n,cap2,?_,?_⟩
  ·have:=hc 0 _ rfl
   simpa using this
  ·have:=hc 1 _ rfl
   simpa using this
 have cF:0<w.l.n→∃bf u,sf=some ⟨bf,0,none⟩∧Blk W bf u 47∧∀i,i<w.l.n→u[0+i]? = some (.slice none 0 0):=fun hN=>by
  obtain⟨be,u,ha,hk,-,-,-,hel⟩:=r5 (by omega)
  obtain⟨be',ha',hsp⟩:=f6 (by omega)
  rw[ha] at ha'
  obtain rfl:be=be':=by injection ha' with x;injection x
  refine⟨be,u.toArray,by rw[hsp],hk,fun i hi=>?_⟩
  obtain⟨us,hd,-,hc⟩:=hel i hi
  obtain⟨p0,t0,rfl,rfl,rfl⟩:=hd
  have:=hc 0 _ rfl
  simpa using this
 by_cases hN:0<w.l.n
 ·obtain⟨be,u,rfl,hk,hel⟩:=cE hN
  obtain⟨bf,uf,rfl,hkf,helf⟩:=cF hN
  exact⟨⟨_,_,_,u,uf,_,_,_,_,be,0,_,bf,0,_,_,_,_,_,_,_,_,_,k4,_,_,rfl,fun _=>rfl,k6,rfl,fun _=>rfl,k0,rfl,k1,fun _=>hk,hel,fun _=>hkf,helf⟩⟩
 ·exact⟨⟨_,_,_,#[],#[],_,_,_,_,0,0,_,0,0,_,_,_,_,_,_,_,_,_,k4,_,_,rfl,fun h=>absurd h hN,k6,rfl,fun h=>absurd h hN,k0,rfl,k1,fun h=>absurd h hN,fun i hi=>absurd hi (by omega),fun h=>absurd h hN,fun i hi=>absurd hi (by omega)⟩⟩
end
def stB(w:Wor):St:=⟨[sl 6 (.p 2 0),sl 9 (.p 4 0),sl 10 (.p 6 0)],[(2,.lay [.il .i64 0,nilS] 28),(3,.lst 3 2 w.l.n (fun i=>(w.l.e i).cells) 42),(4,.lay [.v (.int .i64 w.tick),.g 3 3 2 0 w.l.n] 28),(5,.lst 5 1 w.l.n (fun _=>[nilS]) 47),(6,.lay [.g 5 5 1 0 w.l.n] 189)],7,0,[],[]⟩
noncomputable def gamT:List (Con cxP):=[conConcat0.lift rfl,conSort0.lift rfl]
def nB(w:Wor):SV:=.tup [w.sv,fI,.v (.int .i64 0)]
set_option maxRecDepth 100000 in
theorem tail_ev(w:Wor)(hn:w.l.n≤1000):ev (C:=cxP) gamT 62 0 (ku (C:=cxP) gamT [] 0) (gF (C:=cxP) []) ⟨[],[],[],1⟩ p19 (stB w) (endK cxP Tryz.f79.results.toList fun v H _=>ai (nB w) H v):=by
 refine Ai ⟨_,rfl,hn⟩ ?_
 refine Ai ⟨rfl,rfl⟩ ?_
 repeat' (first|(refine Ai ?_ ?_)|(intro _)|exact rfl)
 all_goals first|(rw[Nat.zero_add];done)|(rw[Nat.zero_add];rfl)|exact absurd ‹_<0› (Nat.not_lt_zero _)
def lowL(b3 b4 b6 b9 b10:Nat):List (Nat×Value):=[(2,cX 1),(3,ptr b3),(4,ptr b4),(6,ptr b6),(9,ptr b9),(10,ptr b10)]
theorem low_ok{b3 b4 b6 b9 b10:Nat} : LowP (lowL b3 b4 b6 b9 b10) b3 b4 b9 b10:=⟨fun t ht=>by
 unfold lowL
 simp only[av]
 rw[if_neg (by omega),if_neg (by omega),if_neg (by omega),if_neg (by omega),if_neg (by omega),if_neg (by omega)]
 rfl,rfl,rfl,rfl,rfl,rfl⟩
set_option maxRecDepth 100000 in
theorem par_calls{w:Wor}{x:Stp}{ze:Nat→Nat→Value→Prop}{W:World}{vs:List Value}(hv:w.valid=true)(hs:w.l.Sm)(hn:w.l.n≤1000)(hc:∀i,i<w.l.n→(w.l.e i).l.n≤1000)(hx:x.None)(hG:cxP.Grd W)(hz:∀b i c,ze b i c→W.cell? ⟨b,i,none⟩=some c∧c.oneCell'=true)(hd:aj (ba ze) [w.sv,x.sv,.v (.int .i64 1)] vs) :
  bP Tryz.prog true 79 vs.toArray W fun e W'=>∃v val H' nm' ρ',e=.returned val∧ai (nB w) H' v∧Mem cxP W (ba ze).noD nm' ρ' W'∧(∀n sb,look H' n=some sb→da ρ' W' n sb)∧den ρ' v val:=by
 refine calls_par fun Φ w00 S0 cs hret=>?_
 have hE:=kZ (P:=Tryz.prog) (Φ:=Φ) (w00:=w00) (S0:=S0) (co:=true)
 refine oP hE Tryz.func79 (c:=pB) (by kernel_rfl) hret ?_
 intro k h3
 have hb:(fK 79).kind≠.early:=by decide
 have hro:(fK 79).roundOf=none:=rfl
 have dN:∀n b,(ba ze).noD.n n=some b→n<0:=fun n b h=>by cases h
 have dV:∀e l,(ba ze).noD.v e=some l→e<0∧l.o<0:=fun n b h=>by cases h
 have dK:∀m i l,(ba ze).noD.k m i=some l→m<0:=fun n i b h=>by cases h
 have hR0:=rp_start (C:=cxP) (n:=62) (show ([w.sv,x.sv,.v (.int .i64 1)]:List SV).length≤62 from(by decide:3≤62)) hG hz hd
 have hnt:Tryz.f79.ntmps=62:=by kernel_rfl
 rw[hnt]
 refine piece_E (C:=cxP) (Γ:=gamP) (h:=⟨[1001],[],[],1⟩) hE (dH (C:=cxP) (Γ:=gamP) (Fs:=[]) follows 0) follows dN dV dK hb hro pB_is rfl (by kernel_rfl) (pre_ev w x hv hs hn hc hx) (fun _ _ h=>h.1) hR0 fun st1 ρ1 a1 W1 he1 hR1=>?_
 refine piece_E (C:=cxP) (Γ:=gamP) (h:=⟨[1001],[],[],1⟩) hE (dH (C:=cxP) (Γ:=gamP) (Fs:=[]) follows 0) follows dN dV dK hb hro p1_is rfl (by kernel_rfl) he1 (fun _ _ h=>h.1) hR1 fun st2 ρ2 a2 W2 he2 hR2=>?_
 refine piece_E (C:=cxP) (Γ:=gamP) (h:=⟨[1001],[],[],1⟩) hE (dH (C:=cxP) (Γ:=gamP) (Fs:=[]) follows 0) follows dN dV dK hb hro p3_is rfl (by kernel_rfl) he2 (fun _ _ h=>h.1) hR2 fun st3 ρ3 a3 W3 he3 hR3=>?_
 refine last_E (C:=cxP) (Γ:=gamP) (h:=⟨[1001],[],[],1⟩) hE (dH (C:=cxP) (Γ:=gamP) (Fs:=[]) follows 0) follows dN dV dK hb hro p4_is (by kernel_rfl) he3 (fun _ _ h=>h.1) hR3 fun st4 ρ4 a4 W4 hK4 hR4=>?_
 have P:=hK4.2
 obtain⟨x2,rfl,t2⟩:=nP hR4 P.s2
 obtain⟨x3,⟨b3,n3,rfl⟩,t3⟩:=nP hR4 P.s3
 obtain⟨x4,⟨b4,n4,rfl⟩,t4⟩:=nP hR4 P.s4
 obtain⟨x6,⟨b6,n6,rfl⟩,t6⟩:=nP hR4 P.s6
 obtain⟨x9,⟨b9,n9,rfl⟩,t9⟩:=nP hR4 P.s9
 obtain⟨x10,⟨b10,n10,rfl⟩,t10⟩:=nP hR4 P.s10
 have hS:Sls 62 a4 (lowL b3 b4 b6 b9 b10):=⟨hR4.base.sz,fun t v e=>by
  unfold lowL at e
  simp only[av] at e
  repeat' split at e
  all_goals first|(cases e;done)|skip
  all_goals (obtain rfl:=Oi e;subst_vars;assumption)⟩
 refine par_mid hb rfl low_ok (N:=w.l.n) (fun W1 r=>par_at P hx.s (hR4.later r) n3 n4 n9 n10) (by omega) hS hR4.base.df fun a5 W5 hS5 hd5 r5=>?_
 have hR5:Rp cxP 62 W (ba ze).noD (stB w) ρ4 a5 W5:=by
  refine rp_again hR4 r5 hS5.1 hd5 (P.nm▸rfl) (fun n sb hn=>?_) (fun t q hq=>?_)
  ·simp only[av] at hn
   repeat' split at hn
   all_goals first|(cases hn;done)|skip
   all_goals (obtain rfl:=Oi hn;subst_vars)
   ·exact P.h2
   ·exact P.h3
   ·exact P.h4
   ·exact P.h5
   ·exact P.h6
  ·have hq':look ((6,_)::(9,_)::(10,_)::[]) t=some q:=hq
   simp only[av] at hq'
   repeat' split at hq'
   all_goals first|(cases hq';done)|skip
   all_goals (obtain rfl:=Oi hq';subst_vars)
   ·exact⟨rfl,_,⟨b6,n6,rfl⟩,hS5.2 6 _ rfl⟩
   ·exact⟨rfl,_,⟨b9,n9,rfl⟩,hS5.2 9 _ rfl⟩
   ·exact⟨rfl,_,⟨b10,n10,rfl⟩,hS5.2 10 _ rfl⟩
 refine(fL (C:=cxP) (ρe:=(ba ze).noD) (dH (C:=cxP) (Γ:=gamT) (Fs:=[]) follows 0) follows dN dV dK p19 (stB w) _ (by kernel_rfl) (tail_ev w hn) ρ4 a5 W5 hR5) _ hE _ k cs hb hro fun e a6 W6 ⟨x',st6,ρ6,he',hK6,hR6⟩=>h3 e a6 W6 ?_
 have key:finK cxP Tryz.f79.results.toList st6 (fun v=>ai (nB w) st6.H v)→a6.defers=[]∧∃v,(results Tryz.f79 a6.tmps).run Tryz.prog W6=.ok v W6∧∃v' val H' nm' ρ',Ending.returned v=.returned val∧ai (nB w) H' v'∧Mem cxP W (ba ze).noD nm' ρ' W6∧(∀n sb,look H' n=some sb→da ρ' W6 n sb)∧den ρ' v' val:=by
  intro hk
  obtain⟨v,h1,v',H',nm',h2,h3,h4,h5⟩:=end_ok (K:=fun v H _=>ai (nB w) H v) rfl hR6 hk
  exact⟨hR6.base.df,v,h1,v',v,H',nm',ρ6,rfl,h2,h3,h4,h5⟩
 subst he'
 cases x' with
 | normal=>exact key hK6
 | exit i=>exact hK6.elim
 | ret=>exact key hK6
set_option maxRecDepth 100000 in
noncomputable def conParallel1:Con cxP:=mkCon 79 Tryz.call79 (dG (fl:=[1001]) (fn:=Tryz.f79) Tryz.func79 (by kernel_rfl)) (dO cP rdStp (rdI .i64)) (fun x=>[x.1.valid=true,x.1.l.Sm,x.1.l.n≤1000,∀i,i<x.1.l.n→(x.1.l.e i).l.n≤1000,x.2.1.None,x.2.2=1]) (fun x=>nB x.1) fun x ze W vs hp hG hz hd=>by
 obtain⟨w,x,n⟩:=x
 obtain⟨hv,hs,hn,hc,hx,rfl⟩:=hp
 refine(par_calls hv hs hn hc hx hG hz hd).mono fun e W' ⟨v,val,H',nm',ρ',h1,h2,h3,h4,h5⟩=>?_
 obtain⟨q1,q2,q3⟩:=fn_endR h2 h3 h4 h5
 exact⟨val,(zR ρ' W').z,h1,q1,q2,q3⟩
end Go.Proofs.YtgigkennhdolpaaGreatDoor
namespace Go.Proofs.YtgigkennhdolpaaGreatDoor
open Go.RowKit
set_option maxRecDepth 8000
set_option maxHeartbeats 2000000
def parOut0(w:Wor):SV:=.tup [w.sv,fI,.il .i64 0]
theorem All30_walk:∀a,aK ((fun a=>[a.1.valid=true,a.1.l.Sm,a.1.l.n≤1000,∀i,i<a.1.l.n→(a.1.l.e i).l.n≤1000,a.2.None]) a)→aX (C:=cxP) [conParallel1] [] 0 aw Tryz.f42 ((aV cP rdStp).enc a) fun v H _=>ai ((fun a=>parOut0 a.1) a) H v:=by
 intro⟨w,x⟩ ⟨hv,hs,hn,hc,hx⟩
 replace hv:w.valid=true:=hv
 replace hs:w.l.Sm:=hs
 replace hn:w.l.n≤1000:=hn
 replace hc:∀i,i<w.l.n→(w.l.e i).l.n≤1000:=hc
 replace hx:x.None:=hx
 refine Ai ⟨by repeat' (first|exact trivial|exact rfl|refine Ai ?_ ?_|intro _),fun _ _=>trivial,fun i hi=>absurd (hx.p▸hi) (Nat.not_lt_zero _),hv,hs,hn,hc,hx,rfl⟩ ?_
 repeat' (first|(refine Ai ?_ ?_)|(intro _)|exact rfl)
 all_goals exact absurd ‹_<0› (Nat.not_lt_zero _)
noncomputable def conAll30:Con cxP:=ah (C:=cxP) 42 Tryz.call42 (aV cP rdStp) _ _ (fun _=>aw) [] (fun _=>rfl) follows Tryz.func42 (by kernel_rfl) All30_walk
noncomputable def conSteerV(F:Wor→bw→Wor×Int)(hF:F=bz):Con cx:=ah 21 Tryz.call21 (aV cP iQ) (fun a=>[a.1.l.Sm,(a.2.n:Int)≤cJ,∀i,i<a.2.n→InR (a.2.e i).moveX∧InR (a.2.e i).moveY]) (fun a=>.tup [(F a.1 a.2).1.sv,.v (.int .i64 (F a.1 a.2).2)]) (fun _=>⟨[20],[14],[5,13],0⟩) [20] (fun _=>rfl) follows Tryz.func21 (by kernel_rfl) (by subst hF;exact Steer_walk)
def stW(w:Wor)(g:Vec):Wor:=iL (stepS (scnW w g)) w
def stS(w:Wor)(g:Vec):jm:=l7 (lZ (scnW w g))
noncomputable def conStWorldV(B:Wor→Vec→Wor)(hB:B=stW)(S:Wor→Vec→jm)(hS:S=stS):Con cx:=ah 44 Tryz.call44 (dO cP rdRps dW) (fun a=>[a.1.valid=true,a.1.l.Sm,a.2.1.n=0,(bu a.1.l a.1.l.n).length≤1,gOk a.2.2]) (fun a=>.tup [(B a.1 a.2.2).sv,(S a.1 a.2.2).sv,.il .i64 0]) (fun _=>aw) [] (fun _=>rfl) follows Tryz.func44 (by kernel_rfl) (by subst hB hS;exact StWorld_walk)
def gonF(a:Rct)(w:Wor):Fam:=⟨(gG a w.l w.l.n).length,fun i=>(gG a w.l w.l.n).getD i 0⟩
def Fam.svI(f:Fam):SV:=.rs 1 f.n fun i=>[.v (.int .i64 (f.g i))]
noncomputable def conGoneV(Gf:Rct→Wor→Fam)(hG:Gf=gonF):Con cx:=ah 45 Tryz.call45 (aV rdRct cP) (fun a=>[a.2.l.n≤1000,∀i,i<a.2.l.n→((a.2.l.e i).l.n:Int)≤cJ,∀i,i<a.2.l.n→(bm (a.2.l.e i).l 1).2=true]) (fun a=>(Gf a.1 a.2).svI) (fun _=>⟨[6],[],[3],0⟩) [6] (fun _=>rfl) follows Tryz.func45 (by kernel_rfl) (by subst hG;exact Gone30_walk)
def grv(z:Zon):Vec:=⟨z.gravityX,z.gravityY⟩
def tckZ(F:Wor→bw→Wor×Int)(B:Wor→Vec→Wor)(z:Zon)(l:bw):Zon:=⟨z.areaLowX,z.areaLowY,z.areaHighX,z.areaHighY,(B (F z.w l).1 (grv z)).tick+1,(B (F z.w l).1 (grv z)).l,z.setupSystems,z.setupProgs,z.setupSeed,z.setupFuel,z.ropes,z.gravityX,z.gravityY⟩
def repSV(F:Wor→bw→Wor×Int)(B:Wor→Vec→Wor)(S:Wor→Vec→jm)(Gf:Rct→Wor→Fam)(z:Zon)(l:bw):SV:=.agg [fI,(S (F z.w l).1 (grv z)).sv,(Gf z.area (tckZ F B z l).w).svI]
theorem oh(l:Ens):∀i,i<l.n→aH (eF patE (l.e i).cells):=fun _ _ _ _=>trivial
theorem gr_ok{p:Vec}(h:inR gravR p=true):gOk p:=by
 unfold inR at h
 simp only[Bool.and_eq_true,decide_eq_true_eq] at h
 obtain⟨⟨⟨h1,h2⟩,h3⟩,h4⟩:=h
 exact⟨⟨h1,h2⟩,h3,h4⟩
structure oQ (F:Wor→bw→Wor×Int) (B:Wor→Vec→Wor) (z:Zon) (l:bw):Prop where
 sm:z.w.l.Sm
 zv:z.w.valid=true
 ok:z.Ok
 n:(l.n:Int)≤cJ
 mv:∀i,i<l.n→InR (l.e i).moveX∧InR (l.e i).moveY
 st:(F z.w l).2=0
 v:(F z.w l).1.valid=true
 ssm:(F z.w l).1.l.Sm
 b:(bu (F z.w l).1.l (F z.w l).1.l.n).length≤1
 t:(F z.w l).1.tick<1073741824
 bt:InR ((B (F z.w l).1 (grv z)).tick+1)
 gn:(B (F z.w l).1 (grv z)).l.n≤1000
 gc:∀i,i<(B (F z.w l).1 (grv z)).l.n→(((B (F z.w l).1 (grv z)).l.e i).l.n:Int)≤cJ
 gp:∀i,i<(B (F z.w l).1 (grv z)).l.n→(bm ((B (F z.w l).1 (grv z)).l.e i).l 1).2=true
noncomputable def inTick1:FnI cxP:=⟨41,Tryz.call41,Tryz.f41,Tryz.func41,[],[],[],0,by kernel_rfl⟩
noncomputable def inTick2:FnI cxP:=⟨43,Tryz.call43,Tryz.f43,Tryz.func43,[],[],[],0,by kernel_rfl⟩
def zeroZon:List SV:=[.il .i64 0,.il .i64 0,.il .i64 0,.il .i64 0,.il .i64 0,.v (.slice none 0 0),.v (.slice none 0 0),.v (.slice none 0 0),.il .u64 0,.il .i64 0,.v (.slice none 0 0),.il .i64 0,.il .i64 0]
def tkC(z:Zon)(W:Wor)(T:jm):Cut:=⟨Wor×jm,fun a=>a.1=W∧a.2=T,fun a=>⟨[sl 4 (.p 1 0),sl 5 (.p 2 0),sl 7 (.p 3 0),sl 8 (.p 4 0),sl 9 (.p 5 0)],
 [(1,.lay zeroZon 36),(2,.lay [.v (.slice none 0 0),.v (.slice none 0 0),.v (.slice none 0 0)] 51),(3,.lay z.cells 36),(4,.lay [fI,a.2.sv,.v (.slice none 0 0)] 51),(5,.lay a.1.cells 28)],7,0,[],[]⟩,fun _=>0⟩
section
variable (F:Wor→bw→Wor×Int)(hF:F=bz)(B:Wor→Vec→Wor)(hB:B=stW)(S:Wor→Vec→jm)(hS:S=stS)(Gf:Rct→Wor→Fam)(hG:Gf=gonF)
theorem Tick_walk:∀a,aK ((fun a:Zon×bw=>[oQ F B a.1 a.2]) a)→aX (C:=cxP) [conZValid.lift rfl,conOwn30.lift rfl,(conSteerV F hF).lift rfl,conAll30,(conStWorldV B hB S hS).lift rfl,(conGoneV Gf hG).lift rfl] [inTick1,inTick2] 1 ⟨[6,15,18,19],[17],[],4⟩ Tryz.f13 ((aV lJ iQ).enc a) fun v H _=>ai ((fun a=>.tup [(tckZ F B a.1 a.2).sv,repSV F B S Gf a.1 a.2,.v (.int .i64 0)]) a) H v:=by
 intro⟨z,l⟩ hT
 replace hT:oQ F B z l:=hT
 have hst:=hT.ok.st
 have hsy:z.setupSystems.n=0:=hst.s
 have hpr:z.setupProgs.n=0:=hst.p
 have hro:=hT.ok.ro
 have hv:=hT.zv
 have hV:=Wor.dq.1 hv
 have hlen:=hV.len
 have hsm:z.w.l.n≤1000∧∀i,i<z.w.l.n→(z.w.l.e i).l.n≤1000:=⟨by omega,fun i hi=>by have:=(hV.right i hi).len;omega⟩
 refine Ai ⟨oh _,fun i hi=>absurd (hsy▸hi) (Nat.not_lt_zero _),fun i hi=>absurd (hpr▸hi) (Nat.not_lt_zero _),fun i hi=>absurd (hro▸hi) (Nat.not_lt_zero _),hT.sm,hv,hT.ok⟩ ?_
 refine Ai (fun hc=>absurd (show (!z.w.valid)=true from hc) (by rw[hv];decide)) (fun _=>?_)
 refine Ai ⟨oh _,fun i hi=>absurd (hsy▸hi) (Nat.not_lt_zero _),fun i hi=>absurd (hpr▸hi) (Nat.not_lt_zero _),fun i hi=>absurd (hro▸hi) (Nat.not_lt_zero _),hsm.1,hsm.2,hsy,hpr,hro⟩ ?_
 refine Ai ⟨oh _,fun _ _=>trivial,hT.sm,hT.n,hT.mv⟩ ?_
 have hS':=Wor.dq.1 hT.v
 have hsl:=hS'.len
 have hss:(F z.w l).1.l.n≤1000∧∀i,i<(F z.w l).1.l.n→((F z.w l).1.l.e i).l.n≤1000:=⟨by omega,fun i hi=>by have:=(hS'.right i hi).len;omega⟩
 have hg:=gr_ok hT.ok.gr
 have hE2:=hT.st
 refine Ai (fun hc=>absurd (show decide (¬(F z.w l).2=0)=true from hc) (by rw[hE2];decide)) (fun _=>?_)
 refine Ai (fun hc=>absurd (show (1073741824:Int)≤(F z.w l).1.tick from Od hc) (by have:=hT.t;omega)) (fun _=>?_)
 refine Exists.intro (tkC z (B (F z.w l).1 (grv z)) (S (F z.w l).1 (grv z))) ?_
 refine Ai ?_ ?_
 ·refine Ai ⟨oh _,fun _ _=>trivial,fun i hi=>absurd (hpr▸hi) (Nat.not_lt_zero _),hT.v,hT.ssm,hss.1,hss.2,hst⟩ ?_
  refine Ai ⟨oh _,fun i hi=>absurd (hro▸hi) (Nat.not_lt_zero _),hT.v,hT.ssm,hro,hT.b,hg⟩ ?_
  refine⟨(B (F z.w l).1 (grv z),S (F z.w l).1 (grv z)),[],[],trivial,⟨rfl,rfl⟩,?_⟩
  repeat' (first|(refine Ai ?_ ?_)|(intro _)|exact rfl)
  all_goals first|(exact absurd (show _<0 by assumption) (Nat.not_lt_zero _))|(exact absurd (Nat.lt_of_lt_of_eq (by assumption) hsy) (Nat.not_lt_zero _))
 refine fun(a:Wor×jm) (ha:a.1=B (F z.w l).1 (grv z)∧a.2=S (F z.w l).1 (grv z))=>?_
 obtain⟨W,T⟩:=a
 obtain⟨h1,h2⟩:W=B (F z.w l).1 (grv z)∧T=S (F z.w l).1 (grv z):=ha
 refine Ai (show InR (W.tick+1) by rw[h1];exact hT.bt) ?_
 refine Ai ⟨oh _,(show W.l.n≤1000 by rw[h1];exact hT.gn),(show ∀i,i<W.l.n→((W.l.e i).l.n:Int)≤cJ by rw[h1];exact hT.gc),(show ∀i,i<W.l.n→(bm (W.l.e i).l 1).2=true by rw[h1];exact hT.gp)⟩ ?_
 subst h1 h2
 repeat' (first|(refine Ai ?_ ?_)|(intro _)|exact rfl)
 all_goals first|(exact absurd (show _<0 by assumption) (Nat.not_lt_zero _))|(exact absurd (Nat.lt_of_lt_of_eq (by assumption) hsy) (Nat.not_lt_zero _))|trace_state
end
end Go.Proofs.YtgigkennhdolpaaGreatDoor
namespace Go.Proofs.YtgigkennhdolpaaGreatDoor
open Go.RowKit
noncomputable def conTickV(T:Zon→bw→Zon)(hT:T=tckZ bz stW)(S:Zon→bw→jm)(hS:S=fun z l=>stS (bz z.w l).1 (grv z))(Gn:Zon→bw→Fam)(hG:Gn=fun z l=>gonF z.area (tckZ bz stW z l).w):Con cxP:=ah (C:=cxP) 13 Tryz.call13 (aV lJ iQ) (fun a=>[oQ bz stW a.1 a.2]) (fun a=>.tup [(T a.1 a.2).sv,.agg [fI,(S a.1 a.2).sv,(Gn a.1 a.2).svI],.v (.int .i64 0)]) (fun _=>⟨[6,15,18,19],[17],[],4⟩) [6,15,18,19] (fun _=>rfl) follows Tryz.func13 (by kernel_rfl) (by subst hT hS hG;exact Tick_walk bz rfl stW rfl stS rfl gonF rfl)
def z0:Zon:=Zon.of (znSV exW)
def l0SV:SV:=match buildFD cx 57 2 [(0,.agg [.il .i64 2,.il .i64 5,.il .i64 0,.il .i64 70,.il .i64 (-35),.bl false,.il .i64 0,.il .i64 0,.il .i64 0,.il .i64 0]),(1,.agg [.il .i64 2,.il .i64 4,.il .i64 0,.il .i64 1,.il .i64 1,.bl false,.il .i64 0,.il .i64 0,.il .i64 0,.il .i64 0])] with|some r=>r.v|none=>.e
def l0:bw:=bw.of l0SV
def lN:bw:=bw.of (.v (.slice none 0 0))
def smC(l:Cms):Bool:=decide ((l.n:Int)≤9223372036854775807)&&!bc (fun j=>!(decide (0≤(l.c j).kind)&&decide ((l.c j).kind≤255))) 0 l.n
def smB(l:Ens):Bool:=decide ((l.n:Int)≤9223372036854775807)&&!bc (fun i=>!smC (l.e i).l) 0 l.n
theorem smC_ok{l:Cms}(h:smC l=true):l.Sm:=by
 simp only[smC,Bool.and_eq_true,decide_eq_true_eq,Bool.not_eq_true'] at h
 refine⟨h.1,fun i hi=>?_⟩
 have:=gQ h.2 i (Nat.zero_le _) (by omega)
 simpa using this
theorem smB_ok{l:Ens}(h:smB l=true):l.Sm:=by
 simp only[smB,Bool.and_eq_true,decide_eq_true_eq,Bool.not_eq_true'] at h
 refine⟨h.1,fun i hi=>?_⟩
 have:=gQ h.2 i (Nat.zero_le _) (by omega)
 exact smC_ok (by simpa using this)
def mvB(l:bw):Bool:=!bc (fun i=>!(inRB (l.e i).moveX&&inRB (l.e i).moveY)) 0 l.n
theorem mvB_ok{l:bw}(h:mvB l=true):∀i,i<l.n→InR (l.e i).moveX∧InR (l.e i).moveY:=fun i hi=>by
 simp only[mvB,Bool.not_eq_true'] at h
 have:=gQ h i (Nat.zero_le _) (by omega)
 simp only[Bool.not_eq_false',Bool.and_eq_true] at this
 exact⟨inRB_ok this.1,inRB_ok this.2⟩
def gpB(l:Ens):Bool:=!bc (fun i=>!(bm (l.e i).l 1).2) 0 l.n
theorem gpB_ok{l:Ens}(h:gpB l=true):∀i,i<l.n→(bm (l.e i).l 1).2=true:=fun i hi=>by
 simp only[gpB,Bool.not_eq_true'] at h
 have:=gQ h i (Nat.zero_le _) (by omega)
 simpa using this
def tkB(z:Zon)(l:bw):Bool:=smB z.w.l&&z.w.valid&&(inR bigR ⟨z.areaLowX,z.areaLowY⟩&&inR bigR ⟨z.areaHighX,z.areaHighY⟩&&inR z.area ⟨z.areaLowX,z.areaLowY⟩&&inR gravR ⟨z.gravityX,z.gravityY⟩&&Nat.beq z.ropes.n 0&&Nat.beq z.setupSystems.n 0&&Nat.beq z.setupProgs.n 0&&decide (0≤z.setupFuel)&&decide (z.setupFuel≤10000))&&Nat.ble l.n 100&&mvB l &&
 decide ((bz z.w l).2=0)&&(bz z.w l).1.valid&&smB (bz z.w l).1.l&&Nat.ble (bu (bz z.w l).1.l (bz z.w l).1.l.n).length 1&&decide ((bz z.w l).1.tick<1073741824)&&inRB ((stW (bz z.w l).1 (grv z)).tick+1)&&Nat.ble (stW (bz z.w l).1 (grv z)).l.n 1000&&smB (stW (bz z.w l).1 (grv z)).l&&gpB (stW (bz z.w l).1 (grv z)).l
theorem tkB_ok{z:Zon}{l:bw}(h:tkB z l=true):oQ bz stW z l:=by
 simp only[tkB,Bool.and_eq_true] at h
 obtain⟨⟨⟨⟨⟨⟨⟨⟨⟨⟨⟨⟨⟨h1,h2⟩,⟨⟨⟨⟨⟨⟨⟨⟨a1,a2⟩,a3⟩,a4⟩,a5⟩,a6⟩,a7⟩,a8⟩,a9⟩⟩,h3⟩,h4⟩,h5⟩,h6⟩,h7⟩,h8⟩,h9⟩,h10⟩,h11⟩,h12⟩,h13⟩:=h
 have hn:=Nat.le_of_ble_eq_true h3
 exact⟨smB_ok h1,h2,⟨a1,a2,a3,a4,Nb a5,⟨Nb a6,Nb a7,Od a8,Od a9⟩⟩,(show (l.n:Int)≤9223372036854775807 by omega),mvB_ok h4,Od h5,h6,smB_ok h7,Nat.le_of_ble_eq_true h8,Od h9,inRB_ok h10,Nat.le_of_ble_eq_true h11,fun i hi=>((smB_ok h12).2 i hi).1,gpB_ok h13⟩
theorem tk1:oQ bz stW z0 l0:=tkB_ok (by kernel_rfl)
theorem tk2:oQ bz stW (tckZ bz stW z0 l0) lN:=tkB_ok (by kernel_rfl)
noncomputable def conEx30F:Con cxP:={conExample30.lift rfl with frz:=true}
def famOf(l:List SV):Fam:=⟨l.length,fun i=>(hdS (chunk l 1 i)).iv⟩
def fA:Fam:=famOf [.il .i64 74,.il .i64 (-22),.il .i64 98,.il .i64 50]
def fB:Fam:=famOf [.il .i64 138,.il .i64 (-54),.il .i64 101,.il .i64 50]
def fC:Fam:=famOf [.il .i64 1]
def fD:Fam:=famOf [.il .i64 1,.il .i64 2]
structure Tk where
 z:Zon
 s:jm
 g:Fam
def Tk.rep(k:Tk):List SV:=[fI,k.s.sv,k.g.svI]
def awC(a0:Tk):Cut:=⟨Tk,fun a=>a=a0,fun a=>⟨[sl 1 (.p 0 0),sl 2 (.p 1 0),sl 3 (i64 0)],[(0,.lay a.z.cells 36),(1,.lay a.rep 51)],2,0,[],[]⟩,fun _=>0⟩
def awD(a0 b0:Tk):Cut:=⟨Tk×Tk,fun a=>a.1=a0∧a.2=b0,fun a=>⟨[sl 1 (.p 0 0),sl 2 (.p 1 0),sl 3 (i64 0),sl 4 (.p 2 0),sl 5 (.p 3 0),sl 6 (i64 0)],[(0,.lay a.1.z.cells 36),(1,.lay a.1.rep 51),(2,.lay a.2.z.cells 36),(3,.lay a.2.rep 51)],4,0,[],[]⟩,fun _=>0⟩
section
variable (T:Zon→bw→Zon)(hT:T=tckZ bz stW)(S:Zon→bw→jm)(hS:S=fun z l=>stS (bz z.w l).1 (grv z))(Gn:Zon→bw→Fam)(hG:Gn=fun z l=>gonF z.area (tckZ bz stW z l).w)
def tkA(z:Zon)(l:bw):Tk:=⟨T z l,S z l,Gn z l⟩
set_option maxHeartbeats 4000000 in
set_option maxRecDepth 8000 in
theorem Awake30_ev:aX (C:=cxP) [conEx30F,conTickV T hT S hS Gn hG,conAt30.lift rfl,conInts.lift rfl] [] 0 ⟨[],[2,3],[],0⟩ Tryz.f11 (rds0.enc ()) fun v H _=>ai (.bl true) H v:=by
 have n0:(T z0 l0).setupSystems.n=0:=by rw[hT];rfl
 have n1:∀z:Zon,z.setupSystems.n=0→(T z lN).setupSystems.n=0:=fun z h=>by rw[hT];exact h
 refine Exists.intro (awC (tkA T S Gn z0 l0)) ?_
 refine Ai ?_ ?_
 ·refine Ai ⟨(by repeat' (first|exact trivial|exact rfl|refine Ai ?_ ?_|intro _)),al2 (by repeat' (first|exact trivial|exact rfl|refine Ai ?_ ?_|intro _)) (by repeat' (first|exact trivial|exact rfl|refine Ai ?_ ?_|intro _)),tk1⟩ ?_
  refine⟨tkA T S Gn z0 l0,[],[],trivial,rfl,?_⟩
  repeat' (first|(refine Ai ?_ ?_)|(intro _)|exact rfl)
  all_goals first|(exact absurd (show _<0 by assumption) (Nat.not_lt_zero _))|(exact absurd (Nat.lt_of_lt_of_eq (by assumption) n0) (Nat.not_lt_zero _))
 refine fun(a:Tk) (ha:a=tkA T S Gn z0 l0)=>?_
 have m0:a.z.setupSystems.n=0:=by rw[ha];exact n0
 refine Exists.intro (awD (tkA T S Gn z0 l0) (tkA T S Gn (T z0 l0) lN)) ?_
 refine Ai ?_ ?_
 ·refine Ai ⟨(by repeat' (first|exact trivial|exact rfl|refine Ai ?_ ?_|intro _)),fun i hi=>absurd (Nat.lt_of_lt_of_eq hi m0) (Nat.not_lt_zero _),(by repeat' (first|exact trivial|exact rfl|refine Ai ?_ ?_|intro _)),(by repeat' (first|exact trivial|exact rfl|refine Ai ?_ ?_|intro _)),(show oQ bz stW a.z lN from by rw[ha];show oQ bz stW (T z0 l0) lN;rw[hT];exact tk2)⟩ ?_
  refine⟨(a,tkA T S Gn a.z lN),[],[],trivial,⟨ha,by rw[ha];rfl⟩,?_⟩
  repeat' (first|(refine Ai ?_ ?_)|(intro _)|exact rfl)
  all_goals first|(exact absurd (show _<0 by assumption) (Nat.not_lt_zero _))|(exact absurd (Nat.lt_of_lt_of_eq (by assumption) m0) (Nat.not_lt_zero _))|(exact absurd (Nat.lt_of_lt_of_eq (by assumption) (n1 _ m0)) (Nat.not_lt_zero _))
 refine fun(a:Tk×Tk) (ha:a.1=tkA T S Gn z0 l0∧a.2=tkA T S Gn (T z0 l0) lN)=>?_
 have h1:=ha.1
 have h2:=ha.2
 have q1:a.1.z.w.l.n≤100000:=by
  rw[h1];show (T z0 l0).wEntities.n≤100000;rw[hT];exact Nat.le_of_ble_eq_true (by kernel_rfl)
 have q2:a.2.z.w.l.n≤100000:=by
  rw[h2];show (T (T z0 l0) lN).wEntities.n≤100000;rw[hT];exact Nat.le_of_ble_eq_true (by kernel_rfl)
 have g1:(a.1.g.n:Int)≤cJ:=by
  rw[h1];show ((Gn z0 l0).n:Int)≤9223372036854775807;rw[hG];exact Od (by kernel_rfl)
 have g2:(a.2.g.n:Int)≤cJ:=by
  rw[h2];show ((Gn (T z0 l0) lN).n:Int)≤9223372036854775807;rw[hT,hG];exact Od (by kernel_rfl)
 have fin:((((((decide ((0:Int)=0)&&decide ((0:Int)=0))&&atW a.1.z.w fA)&&atW a.2.z.w fB)&&mT a.1.g fC)&&mT a.2.g fD)&&decide (a.2.z.w.tick=2))=true:=by
  rw[h1,h2]
  subst hT hS hG
  kernel_rfl
 refine Ai (fun _=>⟨(by repeat' (first|exact trivial|exact rfl|refine Ai ?_ ?_|intro _)),al4 (by repeat' (first|exact trivial|exact rfl|refine Ai ?_ ?_|intro _)) (by repeat' (first|exact trivial|exact rfl|refine Ai ?_ ?_|intro _)) (by repeat' (first|exact trivial|exact rfl|refine Ai ?_ ?_|intro _)) (by repeat' (first|exact trivial|exact rfl|refine Ai ?_ ?_|intro _)),q1⟩) ?_
 refine Ai (fun _=>⟨(by repeat' (first|exact trivial|exact rfl|refine Ai ?_ ?_|intro _)),al4 (by repeat' (first|exact trivial|exact rfl|refine Ai ?_ ?_|intro _)) (by repeat' (first|exact trivial|exact rfl|refine Ai ?_ ?_|intro _)) (by repeat' (first|exact trivial|exact rfl|refine Ai ?_ ?_|intro _)) (by repeat' (first|exact trivial|exact rfl|refine Ai ?_ ?_|intro _)),q2⟩) ?_
 refine Ai (fun _=>⟨(by repeat' (first|exact trivial|exact rfl|refine Ai ?_ ?_|intro _)),al1 (by repeat' (first|exact trivial|exact rfl|refine Ai ?_ ?_|intro _)),g1⟩) ?_
 refine Ai (fun _=>⟨(by repeat' (first|exact trivial|exact rfl|refine Ai ?_ ?_|intro _)),al2 (by repeat' (first|exact trivial|exact rfl|refine Ai ?_ ?_|intro _)) (by repeat' (first|exact trivial|exact rfl|refine Ai ?_ ?_|intro _)),g2⟩) ?_
 refine Eq.trans (a:=true) fin.symm ?_
 exact rfl
end
theorem Awake30_walk:∀a,aK ((fun _=>[]) a)→aX (C:=cxP) [conEx30F,conTickV (tckZ bz stW) rfl (fun z l=>stS (bz z.w l).1 (grv z)) rfl (fun z l=>gonF z.area (tckZ bz stW z l).w) rfl,conAt30.lift rfl,conInts.lift rfl] [] 0 ⟨[],[2,3],[],0⟩ Tryz.f11 (rds0.enc a) fun v H _=>ai ((fun _=>.bl true) a) H v:=fun _ _=>Awake30_ev _ rfl _ rfl _ rfl
noncomputable def conAwake30:Con cxP:=ah (C:=cxP) 11 Tryz.call11 rds0 (fun _=>[]) (fun _=>.bl true) (fun _=>⟨[],[2,3],[],0⟩) [] (fun _=>rfl) follows Tryz.func11 (by kernel_rfl) Awake30_walk
end Go.Proofs.YtgigkennhdolpaaGreatDoor
