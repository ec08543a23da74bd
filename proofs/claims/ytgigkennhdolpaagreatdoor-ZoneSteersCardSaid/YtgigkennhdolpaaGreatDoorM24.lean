/- Company, 24: what the trace keeps over an operation of the library's. Company, 25: the end of a phase with one worker: the worker is in the library's Done, or gone; the starter walks to Wait, or is in it. Company, 26: the crew at the end of a phase with one worker; steps of the starter's and the worker's in the library. Company, 27: the end of a phase with one worker runs to the join. Company, 11: a view is made: foreign blocks struck out, lent ones frozen. -/
import Derived.Test.YtgigkennhdolpaaGreatDoorM23
namespace Go.Proofs.YtgigkennhdolpaaGreatDoor
open Go.Conc
open Go.ConcR (stA smA)
def LibOp(Wg n dw:Nat)(op:MemOp):Prop:=
 (∀a:Addr,op.act≠.mark (.release a))∧op.act.low n∧(op.act.touch? = none∨(∃a wr,op.act=.access ⟨.cell a,wr,true⟩∧a.block=Wg∧(op.g=0∨dw≠0))∨(op.g=0∧∃a:Addr,(op.act=.mark (.read a)∨op.act=.mark (.write a))∧a.block=Wg))
def ivP(J Wg:Nat)(Sh Rm:Nat→Prop)(dm dw:Nat)(KJ:Trace→Nat→Prop)(Ex:(Nat→Nat→Prop)→Nat→Prop)(S:Nat→Nat→Prop)(n:Nat)(t:Trace):Prop:=
 Kn (fun i=>i=0∨i=J) (fun _=>Rm) S n t∧Xw J Wg Sh KJ dm dw t∧(∀i,i=0∨i=J→S i Wg)∧Ex S n
section
variable {J Wg:Nat}{Sh Rm:Nat→Prop}{KJ KJ':Trace→Nat→Prop}{Ex:(Nat→Nat→Prop)→Nat→Prop}{dm dw:Nat}{t u:Trace}{n:Nat}{S:Nat→Nat→Prop}{op:MemOp}
theorem LibOp.blk(h:LibOp Wg n dw op){x:Touch}(hx:op.act.touch? = some x):(∃a,x.loc=.cell a∧a.block=Wg)∧x.kind≠.plain∧(x.kind=.said→op.g=0)∧(x.kind=.atomic→op.g=0∨dw≠0):=by
 obtain⟨-,-,h|⟨a,wr,h1,h2,h3⟩|⟨h1,a,h2|h2,h3⟩⟩:=h
 ·rw[h] at hx;cases hx
 ·rw[h1] at hx
  simp only[MemAct.touch?,Option.some.injEq] at hx
  subst hx
  exact⟨⟨a,rfl,h2⟩,by simp,by simp,fun _=>h3⟩
 ·rw[h2] at hx
  simp only[MemAct.touch?,Option.some.injEq] at hx
  subst hx
  exact⟨⟨a,rfl,h3⟩,by simp,fun _=>h1,by simp⟩
 ·rw[h2] at hx
  simp only[MemAct.touch?,Option.some.injEq] at hx
  subst hx
  exact⟨⟨a,rfl,h3⟩,by simp,fun _=>h1,by simp⟩
theorem blk_of{x:Touch}{a:Addr}{b:Nat}(h:x.loc=.cell a)(hb:ji x.loc=some b):a.block=b:=by rw[h] at hb;exact Oi hb
theorem Xw.lib(h:Xw J Wg Sh KJ dm dw t)(hSh:Sh Wg)(hl:LibOp Wg n dw op)(hi:op.g=0∨op.g=J)(hKJ:∀k,KJ t k→KJ' (t++#[op]) k):Xw J Wg Sh KJ' (deafStep 0 dm op) (deafStep J dw op) (t++#[op]):=by
 refine h.app (by rw[Deaf_push,h.d0]) (by rw[Deaf_push,h.dJ]) (fun o ho=>?_) (fun o ho x hx hb=>?_) hKJ fun p o hp hge ho x hx b hb=>?_
 ·simp at ho;rw[ho];exact hl.1
 ·simp at ho;subst ho;exact⟨(hl.blk hx).2.1,(hl.blk hx).2.2.1⟩
 ·simp at ho
  subst ho
  obtain⟨⟨a,h1,h2⟩,h3,h4,h5⟩:=hl.blk hx
  rcases hi with hi|hi
  ·exact .inl hi
  ·cases hk:x.kind with
   | plain=>exact absurd hk h3
   | said=>exact .inl (h4 hk)
   | atomic=>
    rcases h5 hk with z|z
    ·exact .inl z
    ·refine .inr (.inr ⟨hk,⟨a,h1⟩,by rw[←blk_of h1 hb,h2];exact hSh,fun g hg hne hc=>?_⟩)
     exfalso
     obtain⟨x',hx',-,hh⟩:=hc
     obtain⟨y,hy,hyx⟩:=touch_of hx'
     have hpe:p=t.size:=by
      have:=lt_size_of_getElem? hp
      simp at this
      omega
     rcases hh with hh|⟨g',hg',hd⟩
     ·rw[hp] at hy
      obtain rfl:=Oi hy
      rw[hx] at hyx
      exact hh (Oi hyx▸hk)
     ·have e:g'=J:=by
       have:(t++#[o]).g? p=some o.g:=by unfold Trace.g?;rw[hp];rfl
       rw[this] at hg'
       exact(Oi hg').symm.trans hi
      rw[e,hpe,deaf_old (Nat.le_refl _)] at hd
      exact z (h.dJ.symm.trans hd)
theorem Kn.lib{act:Nat→Prop}{R:Nat→Nat→Prop}(h:Kn act R S n t)(hx:Xw J Wg Sh KJ dm dw t)(hS:∀i,act i→S i Wg)(hl:LibOp Wg n dw op)(hi:op.g=0∨op.g=J):Kn act R S n (t++#[op]):=by
 refine h.act_ (i:=op.g) (fun o ho=>by simp at ho;rw[ho]) (fun said k a hk o ho b hb hc=>?_) (fun o ho b hb b0 hb0 j hj _=>?_) (fun o ho=>by simp at ho;rw[ho];exact hl.2.1)
 ·simp at ho
  subst ho
  obtain⟨⟨ad,h1,h2⟩,h3,h4,h5⟩:=hl.blk hb
  have hblk:ji a.loc=some Wg:=by rw[hc.1,h1];show some ad.block=_;rw[h2]
  obtain⟨k1,k2⟩:=hx.wg k a hk hblk
  rcases hc.2.2.2 with c|c|⟨_,c1,c2⟩
  ·rcases hi with e|e
   ·rw[e];exact(k1 c).1
   ·rw[e];exact(k1 c).2
  ·exact absurd c h3
  ·rw[h4 c2];exact k2 c1
 ·simp at ho
  subst ho
  obtain⟨⟨ad,h1,h2⟩,-⟩:=hl.blk hb
  rw[←blk_of h1 hb0,h2]
  exact hS j hj
theorem ivP.lib(h:ivP J Wg Sh Rm dm dw KJ Ex S n t)(hSh:Sh Wg)(hl:LibOp Wg n dw op)(hi:op.g=0∨op.g=J)(kj:∀k,KJ t k→KJ' (t++#[op]) k):ivP J Wg Sh Rm (deafStep 0 dm op) (deafStep J dw op) KJ' Ex S n (t++#[op]):=
 ⟨h.1.lib h.2.1 h.2.2.1 hl hi,h.2.1.lib hSh hl hi kj,h.2.2⟩
theorem ivP.still(h:ivP J Wg Sh Rm dm dw KJ Ex S n t)(hu:∀op∈u,op.act.touch? = none∧op.act.low n∧∀m,op.act≠.mark m)(kj:∀k,KJ t k→KJ' (t++u) k):ivP J Wg Sh Rm dm dw KJ' Ex S n (t++u):=by
 have hd:∀g,Deaf (t++u) g=Deaf t g:=fun g=>Deaf_quiet fun op hop d=>by
  have:=(hu op hop).2.2
  unfold deafStep
  split<;>first|rfl|(rename_i e;exact absurd e (this _))
 refine⟨?_,h.2.1.app ((hd 0).trans h.2.1.d0) ((hd J).trans h.2.1.dJ) (fun op hop _=>(hu op hop).2.2 _) (fun op hop x hx=>by rw[(hu op hop).1] at hx;cases hx) kj (fun p op hp _ hop x hx=>by rw[(hu op hop).1] at hx;cases hx),h.2.2⟩
 have:=h.1.still (l:=u.toList) fun op hop=>⟨(hu op (by simpa using hop)).1,(hu op (by simpa using hop)).2.1⟩
 simpa using this
end
end Go.Proofs.YtgigkennhdolpaaGreatDoor
namespace Go.Proofs.YtgigkennhdolpaaGreatDoor
open Go.Conc Go.ConcN
open Go.ConcR (KK wgBlock WgAt stA smA rd wr mk DC0)
inductive MK where|own|kd|ld|cas|wr|sem|ld2|ke|aq|fin|fini
deriving DecidableEq
inductive WK where|rc|dn|rel|k1|dec|l1|st|rs|gone
deriving DecidableEq
def MK.dh:MK→Nat|own=>20|kd=>19|ld=>18|cas=>17|wr=>16|sem=>15|ld2=>14|ke=>13|aq=>12|fin=>11|fini=>11
def MK.fuel:MK→Nat→Nat|fin,n=>2*n+1|fini,n=>2*n|_,n=>n
def WK.dh:WK→Nat|rc=>9|dn=>8|rel=>7|k1=>6|dec=>5|l1=>4|st=>3|rs=>2|gone=>0
def MK.reg:MK→Bool|wr=>true|sem=>true|_=>false
def MK.deaf:MK→Nat|ld=>1|cas=>1|wr=>1|sem=>1|ld2=>1|ke=>1|_=>0
def WK.lib:WK→Bool|rc=>false|dn=>false|gone=>false|_=>true
def WK.deaf:WK→Nat|rc=>0|dn=>0|rel=>0|k1=>0|_=>1
def stV:MK→WK→Int
 | m,.rc=>if m.reg then KK+1 else KK
 | m,.dn=>if m.reg then KK+1 else KK
 | m,.rel=>if m.reg then KK+1 else KK
 | m,.k1=>if m.reg then KK+1 else KK
 | m,.dec=>if m.reg then KK+1 else KK
 | _,.l1=>1
 | _,.st=>1
 | _,.rs=>0
 | _,.gone=>0
def smV:MK→WK→Int
 | m,.gone=>if m.reg then 1 else 0
 | _,_=>0
def cW:MK→WK→Prop
 | m,.rc|m,.dn|m,.rel|m,.k1|m,.dec=>m=.own∨m=.kd∨m=.ld∨m=.cas∨m=.wr∨m=.sem
 | m,.l1|m,.st|m,.rs=>m=.wr∨m=.sem
 | _,.gone=>True
section
variable (P:Program)(ty:TypeId)(Wg:Nat)(Fin:Goroutine→Prop)
def QM(bl:Prop):MK→Nat→Goroutine→Prop
 | .own,_,g=>nh P true ty Wg Fin g
 | .kd,n,g=>Lqn P true ty Wg (AMk P true .disable (Lq P true ty Wg (ALoad P true ty Wg (jl P true ty Wg Fin) (WCas P true ty Wg Fin)))) n g
 | .ld,n,g=>Lqn P true ty Wg (ALoad P true ty Wg (jl P true ty Wg Fin) (WCas P true ty Wg Fin)) n g
 | .cas,n,g=>Lqn P true ty Wg (ACas P true ty Wg (WReg P true ty Wg Fin) (Lq P true ty Wg (ALd P true ty Wg (jl P true ty Wg Fin)))) n g
 | .wr,n,g=>Lqn P true ty Wg (AMk P true (.write (smA Wg)) (Lq P true ty Wg (ASem P true ty Wg (Lq P true ty Wg (ALd P true ty Wg (jl P true ty Wg Fin)))))) n g
 | .sem,n,g=>Lqn P true ty Wg (ASem P true ty Wg (Lq P true ty Wg (ALd P true ty Wg (jl P true ty Wg Fin)))) n g∨(bl∧∃g0,g = {g0 with status:=.blocked}∧ASem P true ty Wg (Lq P true ty Wg (ALd P true ty Wg (jl P true ty Wg Fin))) g0)
 | .ld2,n,g=>Lqn P true ty Wg (ALd P true ty Wg (jl P true ty Wg Fin)) n g
 | .ke,n,g=>Lqn P true ty Wg (AMk P true .enable (Lq P true ty Wg (AMk P true (.acquire (stA Wg)) (Lq P true ty Wg Fin)))) n g
 | .aq,n,g=>Lqn P true ty Wg (AMk P true (.acquire (stA Wg)) (Lq P true ty Wg Fin)) n g
 | .fin,n,g=>Lqn P true ty Wg Fin n g
 | .fini,n,g=>Lqn P true ty Wg Fin n g∧¬Fin g
def QW(QR QD:Goroutine→World→Prop):WK→Nat→Goroutine→World→Prop
 | .rc,_,g,W=>QR g W
 | .dn,_,g,W=>QD g W
 | .rel,n,g,_=>Lqn P false ty Wg (AMk P false (.releaseMerge (stA Wg)) (Lq P false ty Wg (AMk P false .disable (DDec P ty Wg)))) n g
 | .k1,n,g,_=>Lqn P false ty Wg (AMk P false .disable (DDec P ty Wg)) n g
 | .dec,n,g,_=>Lqn P false ty Wg (ADec P ty Wg (Qt P) (DLd P ty Wg)) n g
 | .l1,n,g,_=>Lqn P false ty Wg (ALd1 P ty Wg (DSt P ty Wg)) n g
 | .st,n,g,_=>Lqn P false ty Wg (ASt0 P ty Wg (DRel P ty Wg)) n g
 | .rs,n,g,_=>Lqn P false ty Wg (ARel P ty Wg (Qt P)) n g
 | .gone,_,_,_=>True
end
section
variable {P:Program}{ty:TypeId}{Wg:Nat}{main:Bool}{Stop:Goroutine→Prop}{n:Nat}{g g' p p':Goroutine}{w w':World}
theorem bS(h:Lqn P main ty Wg Stop n g)(hw:WgLive ty Wg w):Stop g∨∃m g',n=m+1∧g.status=.running∧stepG P main g w=.go g' w #[]∧Lqn P main ty Wg Stop m g':=by
 have h1:=h w hw
 cases n with
 | zero=>exact .inl (h1 w fun x=>x)
 | succ m=>
  rcases h1 with h1|⟨hs,h1⟩
  ·exact .inl (h1 w fun x=>x)
  ·refine .inr ?_
   have h2:=h1 w fun x=>x
   cases hst:stepG P main g w with
   | go g' w' es=>
    rw[hst] at h2
    obtain⟨⟨e1,e2⟩,h3⟩:=h2
    subst e1 e2
    exact⟨m,g',rfl,hs,rfl,fun w2 hw2=>h3.rely rl_trans fun _=>hw2⟩
   | _=>rw[hst] at h2;exact h2.elim
theorem cA(h:Lqn P main ty Wg Stop n g)(hw:WgLive ty Wg w)(hr:∀g,Stop g→g.status=.running):g.status=.running:=by
 rcases bS h hw with h|⟨_,_,_,h,_⟩
 ·exact hr g h
 ·exact h
theorem dp{st sm:Int}(h:w.heap[Wg]? = some (wgBlock ty st sm)):WgLive ty Wg w:=⟨st,sm,h⟩
theorem again_blocked(h:g.offers=none)(hs:g.status=.running)(w:World):({g with status:=.blocked} : Goroutine).again w=g:=by
 obtain⟨f,c,s,d,o⟩:=g
 simp only at h hs
 subst h hs
 rfl
theorem woken_blocked(h:g.offers=none)(hs:g.status=.running):woken P p p' w ({g with status:=.blocked} : Goroutine) = {g with status:=.blocked}∨woken P p p' w ({g with status:=.blocked} : Goroutine)=g:=by
 unfold woken
 split
 ·exact .inr (again_blocked h hs w)
 ·exact .inl rfl
variable {Fin:Goroutine→Prop}(hFin:∀g,Fin g→g.status=.running)
include hFin
theorem qm_run{bl:Prop}{mk:MK}(h:QM P ty Wg Fin bl mk n g)(hw:WgLive ty Wg w):g.status=.running∨(bl∧mk=.sem∧∃g0,g = {g0 with status:=.blocked}∧ASem P true ty Wg (Lq P true ty Wg (ALd P true ty Wg (jl P true ty Wg Fin))) g0):=by
 cases mk with
 | own=>obtain⟨m,h⟩:=h;exact .inl (cA h hw fun g h=>h.1)
 | kd=>exact .inl (cA h hw fun g h=>h.1)
 | ld=>exact .inl (cA h hw fun g h=>h.1)
 | cas=>exact .inl (cA h hw fun g h=>h.1)
 | wr=>exact .inl (cA h hw fun g h=>h.1)
 | sem=>
  rcases h with h|⟨hb,h⟩
  ·exact .inl (cA h hw fun g h=>h.1)
  ·exact .inr ⟨hb,rfl,h⟩
 | ld2=>exact .inl (cA h hw fun g h=>h.1)
 | ke=>exact .inl (cA h hw fun g h=>h.1)
 | aq=>exact .inl (cA h hw fun g h=>h.1)
 | fin=>exact .inl (cA h hw hFin)
 | fini=>exact .inl (cA h.1 hw hFin)
theorem qm_woke{bl:Prop}{mk:MK}(h:QM P ty Wg Fin bl mk n g)(hw:WgLive ty Wg w):QM P ty Wg Fin bl mk n (woken P p p' w' g):=by
 rcases qm_run hFin h hw with hr|⟨hb,rfl,g0,rfl,h0⟩
 ·rw[woken_run hr];exact h
 ·rcases woken_blocked (P:=P) (p:=p) (p':=p') (w:=w') h0.2.1 h0.1 with e|e
  ·rw[e];exact .inr ⟨hb,g0,rfl,h0⟩
  ·rw[e];exact .inl (bs h0)
omit hFin in
theorem qw_run{wk:WK}{QR QD:Goroutine→World→Prop}{W:World}(hR:∀g W,QR g W→g.status=.running)(hD:∀g W,QD g W→∀w,WgLive ty Wg w→g.status=.running)(h:QW P ty Wg QR QD wk n g W)(hg:wk≠.gone)(hw:WgLive ty Wg w):g.status=.running:=by
 cases wk with
 | rc=>exact hR g W h
 | dn=>exact hD g W h w hw
 | rel=>exact cA h hw fun g h=>h.1
 | k1=>exact cA h hw fun g h=>h.1
 | dec=>exact cA h hw fun g h=>h.1
 | l1=>exact cA h hw fun g h=>h.1
 | st=>exact cA h hw fun g h=>h.1
 | rs=>exact cA h hw fun g h=>h.1
 | gone=>exact absurd rfl hg
omit hFin in
theorem qw_woke{wk:WK}{QR QD:Goroutine→World→Prop}{W:World}(hR:∀g W,QR g W→g.status=.running)(hD:∀g W,QD g W→∀w,WgLive ty Wg w→g.status=.running)(h:QW P ty Wg QR QD wk n g W)(hw:WgLive ty Wg w):QW P ty Wg QR QD wk n (woken P p p' w' g) W:=by
 by_cases hg:wk=.gone
 ·subst hg;trivial
 ·rw[woken_run (qw_run hR hD h hg hw)];exact h
end
def oR(Wg:Nat)(t:Trace)(p:Nat):Prop:=∃y,t[p]? = some y∧y.act=.mark (.releaseMerge (stA Wg))∧t.deaf y.g p=0
def MK.joined:MK→Bool|fin=>true|fini=>true|_=>false
def KJ3(J Wg:Nat):WK→Trace→Nat→Prop
 | .rc,t,k=>Knows t J k
 | .dn,t,k=>Knows t J k
 | .rel,t,k=>Knows t J k
 | _,t,k=>∃p,oR Wg t p∧Before t k p
def KJ2(J Wg:Nat)(m:MK)(k:WK)(t:Trace)(i:Nat):Prop:=(k=.gone→m.joined=false)∧KJ3 J Wg k t i
theorem oR.app{Wg:Nat}{t u:Trace}{p:Nat}(h:oR Wg t p):oR Wg (t++u) p:=by
 obtain⟨y,h1,h2,h3⟩:=h
 exact⟨y,by rw[getElem?_append_old (lt_size_of_getElem? h1)];exact h1,h2,by rw[deaf_old (Nat.le_of_lt (lt_size_of_getElem? h1))];exact h3⟩
theorem kj3_app{J Wg:Nat}{k:WK}(t u:Trace)(i:Nat)(h:KJ3 J Wg k t i):KJ3 J Wg k (t++u) i:=by
 have h1:Knows t J i→Knows (t++u) J i:=fun x=>x.app u
 have h2:(∃p,oR Wg t p∧Before t i p)→∃p,oR Wg (t++u) p∧Before (t++u) i p:=fun⟨p,a,b⟩=>⟨p,a.app,b.app u⟩
 cases k<;>first|exact h1 h|exact h2 h
theorem kj2_app{J Wg:Nat}{m:MK}{k:WK}(t u:Trace)(i:Nat)(h:KJ2 J Wg m k t i):KJ2 J Wg m k (t++u) i:=⟨h.1,kj3_app t u i h.2⟩
end Go.Proofs.YtgigkennhdolpaaGreatDoor
namespace Go.Proofs.YtgigkennhdolpaaGreatDoor
open Go.Conc Go.ConcN
open Go.ConcR (KK wgBlock WgAt stA smA rd wr mk DC0)
def zOf(ty:TypeId)(Wg:Nat)(zf:Nat→Option Obj)(m:MK)(k:WK)(b:Nat):Option Obj:=if b=Wg then some (wgBlock ty (stV m k) (smV m k)) else zf b
def jOf(J:Nat):WK→Nat
 | .gone=>0
 | _=>J
def nV(J:Nat)(m:MK)(k:WK):Nat:=if jOf J k=0 then m.deaf else k.deaf
def Ex1(J Wg c n0:Nat)(Sst:Nat→Prop)(S:Nat→Nat→Prop)(n:Nat):Prop:=
 (∀i b,i=0∨i=J→S i b→b<n)∧(∀b,Sst b→S 0 b∧S J b)∧(S 0 c∧S J c)∧(∀b,S 0 b→S J b→Sst b∨b=c∨b=Wg)∧(∀b,S J b→b<n0→Sst b∨b=c∨b=Wg)∧n0≤n∧Wg<n
def Ex2(Wg:Nat)(Zf Sst:Nat→Prop)(S:Nat→Nat→Prop)(n:Nat):Prop:=(∀b,S 0 b→Zf b)∧(∀b,Sst b→S 0 b)∧Wg<n
def WK.walks:WK→Bool|.rc=>true|.dn=>true|_=>false
def ExK(J Wg c n0:Nat)(Zf Sst:Nat→Prop)(k:WK)(S:Nat→Nat→Prop)(n:Nat):Prop:=if k.walks=true then Ex1 J Wg c n0 Sst S n else Ex2 Wg Zf Sst S n
theorem ExK.lt{J Wg c n0:Nat}{Zf Sst:Nat→Prop}{k:WK}{S:Nat→Nat→Prop}{n:Nat}(h:ExK J Wg c n0 Zf Sst k S n):Wg<n:=by
 unfold ExK at h
 split at h
 ·exact h.2.2.2.2.2.2
 ·exact h.2.2
structure Wq (P:Program) (ty:TypeId) (Wg:Nat) where
 R:Goroutine→World→Prop
 D:Goroutine→World→Prop
 laterR:∀{g W W1},R g W→Rv W W1→R g W1
 laterD:∀{g W W1},D g W→Rv W W1→D g W1
 runR:∀g W,R g W→g.status=.running
 runD:∀g W,D g W→∀w,WgLive ty Wg w→g.status=.running
theorem nK{J:Nat}{k:WK}(h:jOf J k≠0):jOf J k=J∧k≠.gone:=by cases k<;>simp_all [jOf]
theorem jOf_J{J:Nat}{k:WK}(h:k≠.gone):jOf J k=J:=by cases k<;>simp_all [jOf]
theorem qw_later{P:Program}{ty:TypeId}{Wg n:Nat}{g:Goroutine}{W W1:World}{QR QD:Goroutine→World→Prop}{k:WK}(hR:∀{g W W1},QR g W→Rv W W1→QR g W1)(hD:∀{g W W1},QD g W→Rv W W1→QD g W1)(h:QW P ty Wg QR QD k n g W)(r:Rv W W1):QW P ty Wg QR QD k n g W1:=by
 cases k<;>first|exact hR h r|exact hD h r|exact h
theorem exK_own{J Wg c n0:Nat}{Zf Sst:Nat→Prop}{k:WK}{m:MK}{S:Nat→Nat→Prop}{n n' i:Nat}(hi:i=0∨i=jOf J k)(hl:¬((i=0∧m≠.own)∨(i=J∧i≠0∧k.lib=true)))(hn:n≤n')(h:ExK J Wg c n0 Zf Sst k S n):ExK J Wg c n0 Zf Sst k (fun j b=>S j b∨(j≠i∧n≤b∧b<n')) n':=by
 unfold ExK at h ⊢
 split at h
 ·rename_i hw
  rw[if_pos hw]
  have hk:k≠.gone:=fun e=>by rw[e] at hw;cases hw
  rw[jOf_J hk] at hi
  obtain⟨h1,h2,h3,h4,h6,h7,h5⟩:=h
  refine⟨fun j b hj hb=>?_,fun b hb=>⟨.inl (h2 b hb).1,.inl (h2 b hb).2⟩,⟨.inl h3.1,.inl h3.2⟩,fun b x y=>?_,fun b hb hlt=>?_,Nat.le_trans h7 hn,Nat.lt_of_lt_of_le h5 hn⟩
  ·rcases hb with hb|⟨_,_,hb⟩
   ·exact Nat.lt_of_lt_of_le (h1 j b hj hb) hn
   ·exact hb
  ·rcases x with x|⟨x1,x2,x3⟩
   ·rcases y with y|⟨y1,y2,y3⟩
    ·exact h4 b x y
    ·exact absurd (h1 0 b (.inl rfl) x) (by omega)
   ·rcases y with y|⟨y1,y2,y3⟩
    ·exact absurd (h1 J b (.inr rfl) y) (by omega)
    ·rcases hi with e|e
     ·exact absurd e.symm x1
     ·exact absurd e.symm y1
  ·rcases hb with hb|⟨_,x2,_⟩
   ·exact h6 b hb hlt
   ·omega
 ·rename_i hw
  rw[if_neg hw]
  refine⟨fun b hb=>?_,fun b hb=>.inl (h.2.1 b hb),Nat.lt_of_lt_of_le h.2.2 hn⟩
  rcases hb with hb|⟨h0,-⟩
  ·exact h.1 b hb
  ·exfalso
   have hi0:i≠0:=fun e=>h0 e.symm
   rcases hi with e|e
   ·exact hi0 e
   ·obtain⟨e2,hk⟩:=nK (J:=J) (k:=k) (by rw[←e];exact hi0)
    exact hl (.inr ⟨e.trans e2,hi0,by cases k<;>first|rfl|exact absurd rfl hk|exact absurd rfl hw⟩)
def cw2(P:Program)(ty:TypeId)(J Wg c:Nat)(X:Wq P ty Wg)(Sh Sst Rm:Nat→Prop)(Fin:Goroutine→Prop)(hFin:∀g,Fin g→g.status=.running)(Zf:Nat→Prop)(zf:Nat→Option Obj)(hZ:Zf Wg)(w0:World)(m:MK)(mf:Nat)(k:WK)(kf:Nat):Cw P:=
 cwP P (jOf J k) Wg Sh Rm (fun i=>(i=0∧m≠.own)∨(i=J∧i≠0∧k.lib=true))
  (fun i g W=>(i=0→QM P ty Wg Fin (k≠.gone) m mf g)∧(i≠0→QW P ty Wg X.R X.D k kf g W)) Zf (zOf ty Wg zf m k) m.deaf (nV J m k) (KJ2 J Wg m k) (ExK J Wg c w0.heap.size Zf Sst k) w0
  (fun h r=>⟨h.1,fun e=>qw_later X.laterR X.laterD (h.2 e) r⟩)
  (fun h hz=>by
   have hw:=dp (ty:=ty) (Wg:=Wg) (by have:=hz Wg hZ;unfold zOf at this;rwa [if_pos rfl] at this)
   exact⟨fun e=>qm_woke hFin (h.1 e) hw,fun e=>qw_woke X.runR X.runD (h.2 e) hw⟩)
  (fun t u k h=>kj2_app t u k h)
  (fun h0 hl S n hE t p y hy hg _=>by
   obtain⟨e,hk⟩:=nK h0
   rw[e] at hl hg
   have hw:k.walks=true:=by
    cases k<;>first|rfl|exact absurd rfl hk|exact absurd (.inr ⟨rfl,e▸h0,rfl⟩) hl
   have hkn:Knows t J p:=by have:=knows_own hy;rwa [hg] at this
   exact⟨fun e=>absurd e hk,by cases k<;>first|exact hkn|cases hw⟩)
  (fun {S n n' i} hi hl hn h=>exK_own hi hl hn h)
theorem kJ{g d:Nat}{op:MemOp}(h:op.g≠g):deafStep g d op=d:=by
 unfold deafStep
 split<;>first|rfl|exact if_neg h
section
variable {J Wg:Nat}{Sh Rm:Nat→Prop}{KJ KJ':Trace→Nat→Prop}{Ex:(Nat→Nat→Prop)→Nat→Prop}{dm dw:Nat}{t u:Trace}{n:Nat}{S:Nat→Nat→Prop}{op:MemOp}
theorem iv0(h:ivP J Wg Sh Rm dm (if J=0 then dm else dw) KJ Ex S n t)(hSh:Sh Wg)(hg:op.g=0)(hl:(∀a:Addr,op.act≠.mark (.release a))∧op.act.low n∧(op.act.touch? = none∨(∃a wr,op.act=.access ⟨.cell a,wr,true⟩∧a.block=Wg)∨∃a:Addr,(op.act=.mark (.read a)∨op.act=.mark (.write a))∧a.block=Wg))
  (kj:∀k,KJ t k→KJ' (t++#[op]) k):ivP J Wg Sh Rm (deafStep 0 dm op) (if J=0 then deafStep 0 dm op else dw) KJ' Ex S n (t++#[op]):=by
 have:=h.lib hSh (op:=op) (KJ':=KJ') ⟨hl.1,hl.2.1,hl.2.2.imp id (.imp (fun⟨a,wr,x,y⟩=>⟨a,wr,x,y,.inl hg⟩) fun x=>⟨hg,x⟩)⟩ (.inl hg) kj
 by_cases h0:J=0
 ·subst h0;simpa using this
 ·rw[if_neg h0] at this ⊢
  rwa [kJ (g:=J) (by rw[hg];exact fun e=>h0 e.symm)] at this
theorem ivJ(h:ivP J Wg Sh Rm dm dw KJ Ex S n t)(hJ:J≠0)(hSh:Sh Wg)(hg:op.g=J)(hl:(∀a:Addr,op.act≠.mark (.release a))∧op.act.low n∧(op.act.touch? = none∨(∃a wr,op.act=.access ⟨.cell a,wr,true⟩∧a.block=Wg)∧dw≠0))
  (kj:∀k,KJ t k→KJ' (t++#[op]) k):ivP J Wg Sh Rm dm (deafStep J dw op) KJ' Ex S n (t++#[op]):=by
 have:=h.lib hSh (op:=op) (KJ':=KJ') ⟨hl.1,hl.2.1,hl.2.2.imp id fun⟨⟨a,wr,x,y⟩,z⟩=>.inl ⟨a,wr,x,y,.inr z⟩⟩ (.inr hg) kj
 rwa [kJ (g:=0) (by rw[hg];exact hJ)] at this
theorem ivP.alone(h:ivP J Wg Sh Rm dm dw KJ Ex S n t):ivP 0 Wg Sh Rm dm dm KJ Ex S n t:=by
 obtain⟨h1,h2,h3,h4⟩:=h
 exact⟨⟨h1.clean,fun i hi=>h1.known i (hi.elim .inl .inl),h1.seen⟩,⟨h2.d0,h2.d0,h2.norel,fun k a x y=>⟨fun e=>⟨((h2.wg k a x y).1 e).1,((h2.wg k a x y).1 e).1⟩,(h2.wg k a x y).2⟩,h2.all⟩,fun i hi=>h3 i (hi.elim .inl .inl),h4⟩
end
section
variable {P:Program}{ty:TypeId}{J Wg c:Nat}{X:Wq P ty Wg}{Sh Sst Rm:Nat→Prop}{Fin:Goroutine→Prop}{hFin:∀g,Fin g→g.status=.running}{Zf:Nat→Prop}{zf:Nat→Option Obj}{hZ:Zf Wg}{w0:World}{m m':MK}{mf mf':Nat}{k k':WK}{kf kf':Nat}
 {C:Cw P} {gs:Array Goroutine} {w w':World} {t:Trace} {S:Nat→Nat→Prop} {V:Nat→World} {rk:Nat→Rk} {q:Nat→Nat} {g g':Goroutine} {es:Array Event} {sl:Option (Nat×Nat)}
open Go.ConcN (sumTo upd sumTo_upd upd_ne upd_same)
theorem js{Wg:Nat}{w w':World}(h:Aside Wg w w'):om (fun b=>b=Wg) w w':=⟨h.size,fun b hb=>h.block b hb,h.os,h.tape,h.output⟩
theorem main_go(h:bx (cw2 P ty J Wg c X Sh Sst Rm Fin hFin Zf zf hZ w0 m mf k kf) gs w t S V rk q)(hi:gs[0]? = some g)(hs:stepG P true g w=.go g' w' es)(hw:Aside Wg w w')(hg:QM P ty Wg Fin (k≠.gone) m' mf' g')
  (hz:w'.heap[Wg]? = some (wgBlock ty (stV m' k) (smV m' k))) (hiv:ivP (jOf J k) Wg Sh Rm m'.deaf (nV J m' k) (KJ2 J Wg m' k) (ExK J Wg c w0.heap.size Zf Sst k) S w.heap.size (t++MemOp.ofEvents 0 g.frame.fn g.frame.place es)) :
  ∃gs' V' rk',runT P (crowd gs w sl) 0=(.next (crowd gs' w' sl),MemOp.ofEvents 0 g.frame.fn g.frame.place es)∧bx (cw2 P ty J Wg c X Sh Sst Rm Fin hFin Zf zf hZ w0 m' mf' k kf) gs' w' (t++MemOp.ofEvents 0 g.frame.fn g.frame.place es) S V' rk' q:=by
 refine⟨_,_,_,runT_crowd_go hi hs,h.reGo (C':=cw2 P ty J Wg c X Sh Sst Rm Fin hFin Zf zf hZ w0 m' mf' k kf) rfl (fun j=>Iff.rfl) rfl (Ch:=fun b=>b=Wg) (fun b hb j hj=>hb▸h.trace.2.2.1 j hj) (js hw) (.inl rfl) hi (r:=.leaf) ⟨fun _=>hg,fun e=>absurd rfl e⟩ (fun j y hj hne hy=>?_) (fun b hb=>?_) hiv fun j hj=>?_⟩
 ·have hj':jOf J k≠0:=fun e=>hne (by rcases hj with x|x;exact x;exact x.trans e)
  obtain⟨e,hk⟩:=nK hj'
  have hj2:j=J:=by rcases hj with x|x;exact absurd x hne;exact x.trans e
  have hq:=h.walk j y hj hy
  cases hr:rk j with
  | leaf=>
   rw[hr] at hq
   exact⟨fun e=>absurd e hne,fun _=>qw_woke X.runR X.runD (hq.2 hne) (dp hz)⟩
  | mk f=>
   rw[hr] at hq
   rw[woken_run hq.1]
   have e2:(cw2 P ty J Wg c X Sh Sst Rm Fin hFin Zf zf hZ w0 m mf k kf).Q j=(cw2 P ty J Wg c X Sh Sst Rm Fin hFin Zf zf hZ w0 m' mf' k kf).Q j:=by
    funext a b
    show ((j=0→QM P ty Wg Fin (k≠.gone) m mf a)∧(j≠0→QW P ty Wg X.R X.D k kf a b))=((j=0→QM P ty Wg Fin (k≠.gone) m' mf' a)∧(j≠0→QW P ty Wg X.R X.D k kf a b))
    simp[hne]
   rw[←e2]
   exact hq
 ·refine⟨(h.common b hb).1,?_⟩
  show _=zOf ty Wg zf m' k b
  unfold zOf
  by_cases e:b=Wg
  ·rw[if_pos e,e];exact hz
  ·rw[if_neg e,hw.block b e]
   have:=(h.common b hb).2
   change _=zOf ty Wg zf m k b at this
   unfold zOf at this
   rwa [if_neg e] at this
 ·refine⟨fun hne=>?_,fun _=>rfl⟩
  rcases hj with ⟨e,-⟩|e
  ·exact absurd e hne
  ·exact h.still j (.inr e)
theorem work_go(h:bx (cw2 P ty J Wg c X Sh Sst Rm Fin hFin Zf zf hZ w0 m mf k kf) gs w t S V rk q)(hJ:J≠0)(hkl:k.lib=true)(hkl':k'.lib=true)(hi:gs[J]? = some g)(hs:stepG P false g w=.go g' w' es)(hw:Aside Wg w w')(hg:QW P ty Wg X.R X.D k' kf' g' (V J))
  (hz:w'.heap[Wg]? = some (wgBlock ty (stV m k') (smV m k'))) (hiv:ivP J Wg Sh Rm m.deaf k'.deaf (KJ2 J Wg m k') (ExK J Wg c w0.heap.size Zf Sst k') S w.heap.size (t++MemOp.ofEvents J g.frame.fn g.frame.place es)) :
  ∃gs' V' rk',runT P (crowd gs w sl) J=(.next (crowd gs' w' sl),MemOp.ofEvents J g.frame.fn g.frame.place es)∧bx (cw2 P ty J Wg c X Sh Sst Rm Fin hFin Zf zf hZ w0 m mf k' kf') gs' w' (t++MemOp.ofEvents J g.frame.fn g.frame.place es) S V' rk' q:=by
 have hk:k≠.gone:=fun e=>by rw[e] at hkl;cases hkl
 have hk':k'≠.gone:=fun e=>by rw[e] at hkl';cases hkl'
 have ej:=jOf_J (J:=J) hk
 have ej':=jOf_J (J:=J) hk'
 have hJ0:(J==0)=false:=by simpa using hJ
 refine⟨_,_,_,runT_crowd_go hi (by rw[hJ0];exact hs),h.reGo (C':=cw2 P ty J Wg c X Sh Sst Rm Fin hFin Zf zf hZ w0 m mf k' kf') rfl (fun j=>?_) rfl (Ch:=fun b=>b=Wg) (fun b hb j hj=>hb▸h.trace.2.2.1 j hj) (js hw) (.inr ej.symm) hi (r:=.leaf) ⟨fun e=>absurd e hJ,fun _=>hg⟩ (fun j y hj hne hy=>?_) (fun b hb=>?_) ?_ fun j hj=>?_⟩
 ·show (j=0∨j=jOf J k')↔(j=0∨j=jOf J k)
  rw[ej,ej']
 ·have hj0:j=0:=by
   rcases hj with x|x
   ·exact x
   ·exact absurd (x.trans ej) hne
  subst hj0
  have hq:=h.walk 0 y hj hy
  have hw2:=dp hz
  have key:GsR P ((cw2 P ty J Wg c X Sh Sst Rm Fin hFin Zf zf hZ w0 m mf k' kf').Q 0) (rk 0) y (V 0):=by
   cases hr:rk 0 with
   | leaf=>
    rw[hr] at hq
    refine⟨fun e=>?_,fun e=>absurd rfl e⟩
    have:=hq.1 rfl
    simpa[hk,hk'] using this
   | mk f=>
    rw[hr] at hq
    have hm:(cw2 P ty J Wg c X Sh Sst Rm Fin hFin Zf zf hZ w0 m mf k kf).Q 0=(cw2 P ty J Wg c X Sh Sst Rm Fin hFin Zf zf hZ w0 m mf k' kf').Q 0:=by
     funext a b
     show ((0=0→QM P ty Wg Fin (k≠.gone) m mf a)∧(0≠0→_))=((0=0→QM P ty Wg Fin (k'≠.gone) m mf a)∧(0≠0→_))
     simp[hk,hk']
    rw[←hm]
    exact hq
  cases hr:rk 0 with
  | leaf=>rw[hr] at key;exact⟨fun e=>qm_woke hFin (key.1 e) hw2,fun e=>absurd rfl e⟩
  | mk f=>rw[hr] at key;rw[woken_run key.1];exact key
 ·refine⟨(h.common b hb).1,?_⟩
  show _=zOf ty Wg zf m k' b
  unfold zOf
  by_cases e:b=Wg
  ·rw[if_pos e,e];exact hz
  ·rw[if_neg e,hw.block b e]
   have:=(h.common b hb).2
   change _=zOf ty Wg zf m k b at this
   unfold zOf at this
   rwa [if_neg e] at this
 ·show ivP (jOf J k') Wg Sh Rm m.deaf (nV J m k') (KJ2 J Wg m k') (ExK J Wg c w0.heap.size Zf Sst k') S w.heap.size _
  unfold nV
  rw[ej',if_neg hJ]
  exact hiv
 ·refine⟨fun hne=>?_,fun _=>rfl⟩
  rcases hj with e|⟨e,-⟩
  ·exact h.still j (.inl e)
  ·exact absurd e hne
end
end Go.Proofs.YtgigkennhdolpaaGreatDoor
namespace Go.Proofs.YtgigkennhdolpaaGreatDoor
open Go.Conc Go.ConcN
open Go.ConcN (sumTo upd sumTo_upd upd_ne upd_same)
open Go.ConcR (KK wgBlock WgAt stA smA rd wr mk DC0)
section
variable {P:Program}{C C':Cw P}{gs gs':Array Goroutine}{w w' W:World}{t u:Trace}{S:Nat→Nat→Prop}{V:Nat→World}{rk rk':Nat→Rk}{q:Nat→Nat}{i j n d:Nat}{g g' g1 g2:Goroutine}{es:Array Event}{fn:FuncId}{pos:String}
theorem bx.quit(h:bx C gs w t S V rk q)(hw0:C'.w0=C.w0)(hact:∀j,C'.act j↔C.act j∧j≠i)(hR:C'.R=C.R){Ch:Nat→Prop}(hch:∀b,Ch b→∀j,C.act j→S j b)(hw:om Ch w w'){p p':Goroutine}(ha:C.act i)(hq:QuitsD P n d g')(hd:Deaf (t++MemOp.ofEvents i fn pos es) i=d)
  (walk:∀(j:Nat) (y:Goroutine),C.act j→j≠i→gs[j]? = some y→GsR P (C'.Q j) (rk j) (woken P p p' w' y) (V j))
  (zb:∀b:Nat,C'.Zb b→(∀j,C.act j→S j b∨C.R j b)∧w'.heap[b]? = C'.z b)
  (iv:C'.Iv S w.heap.size (t++MemOp.ofEvents i fn pos es)) (still:∀j:Nat,C'.lib j→rk j=.leaf) :
  bx C' ((gs.map (woken P p p' w')).setIfInBounds i g') w' (t++MemOp.ofEvents i fn pos es) S (fun j=>(V j).at w'.drawn) rk (upd q i n):=by
 have hg:∀op∈MemOp.ofEvents i fn pos es,op.g=i:=fun op hop=>by obtain⟨e,_,rfl⟩:=Go.Conc.mem_ofEvents hop;rfl
 have hlt:=h.here i ha
 refine⟨fun k y hk hy=>?_,fun k hk=>?_,fun a b ha hb hne x hx=>?_,fun b hb=>⟨fun k hk=>by rw[hR];exact(zb b hb).1 k ((hact k).1 hk).1,(zb b hb).2⟩,fun k y hk hy=>?_,fun k hk=>?_,by rw[hw.size];exact iv,still,fun k hk=>by simpa using h.here k ((hact k).1 hk).1,by rw[hw0];exact⟨hw.os.trans h.base.os,hw.tape.trans h.base.tape,hw.output.trans h.base.output⟩⟩
 ·obtain⟨k1,k2⟩:=(hact k).1 hk
  rcases kV hy with ⟨e,_,_⟩|⟨e,x,hx,rfl⟩
  ·exact absurd e k2
  ·exact GsR.at_ (Q:=C'.Q k) (fun h r=>C'.later h r) (walk k x k1 k2 hx) _
 ·rw[hR]
  exact(h.view k ((hact k).1 hk).1).same_ hw fun b hb=>hch b hb k ((hact k).1 hk).1
 ·rw[hR]
  exact h.apart a b ((hact a).1 ha).1 ((hact b).1 hb).1 hne x (by rw[←hw.size];exact hx)
 ·rcases kV hy with ⟨e,_,rfl⟩|⟨e,x,hx,rfl⟩
  ·subst e
   rw[upd_same,hd]
   exact hq
  ·have hk':¬C.act k:=fun z=>hk ((hact k).2 ⟨z,e⟩)
   rw[woken_quitsD (h.old k x hk' hx),upd_ne q n e,Deaf_other t (Ne.symm e) _ hg]
   exact h.old k x hk' hx
 ·rw[Deaf_other t (g':=i) (by simp at hk;omega) _ hg]
  exact h.above k (by simpa using hk)
theorem bx.retell(h:bx C gs w t S V rk q)(hw0:C'.w0=C.w0)(hact:∀j,C'.act j↔C.act j)(hR:C'.R=C.R)(walk:∀(j:Nat) (y:Goroutine),C.act j→gs[j]? = some y→GsR P (C'.Q j) (rk' j) y (V j))
  (zb:∀b:Nat,C'.Zb b→(∀j,C.act j→S j b∨C.R j b)∧w.heap[b]? = C'.z b) (iv:C'.Iv S w.heap.size t) (still:∀j:Nat,C'.lib j→rk' j=.leaf):bx C' gs w t S V rk' q:=
 ⟨fun k y hk hy=>walk k y ((hact k).1 hk) hy,fun k hk=>by rw[hR];exact h.view k ((hact k).1 hk),fun a b ha hb hne x hx=>by rw[hR];exact h.apart a b ((hact a).1 ha) ((hact b).1 hb) hne x hx,
  fun b hb=>⟨fun k hk=>by rw[hR];exact(zb b hb).1 k ((hact k).1 hk),(zb b hb).2⟩,fun k y hk hy=>h.old k y (fun z=>hk ((hact k).2 z)) hy,h.above,iv,still,fun k hk=>h.here k ((hact k).1 hk),by rw[hw0];exact h.base⟩
theorem runners_set(hi:gs[i]? = some g)(hg:g.status=.running)(hg':g'.status≠.running):cN (gs.setIfInBounds i g')<cN gs:=by
 obtain⟨hlt,e⟩:=Array.getElem?_eq_some_iff.1 hi
 have key:∀(l:List Goroutine) (i:Nat),l[i]? = some g→((l.set i g').filter fun g=>g.status==.running).length<(l.filter fun g=>g.status==.running).length:=by
  intro l
  induction l with
  | nil=>intro i h;simp at h
  | cons a l ih=>
   intro i h
   cases i with
   | zero=>
    simp only[List.getElem?_cons_zero,Option.some.injEq] at h
    subst h
    simp[List.filter_cons,hg,hg']
   | succ i=>
    have:=ih i (by simpa using h)
    simp only[List.set_cons_succ,List.filter_cons]
    split<;>simp<;>omega
 have:=key gs.toList i (by simpa using hi)
 unfold cN
 simpa using this
end
section
variable {P:Program}{ty:TypeId}{J Wg c:Nat}{X:Wq P ty Wg}{Sh Sst Rm:Nat→Prop}{Fin:Goroutine→Prop}{hFin:∀g,Fin g→g.status=.running}{Zf:Nat→Prop}{zf:Nat→Option Obj}{hZ:Zf Wg}{w0:World}{m m':MK}{mf mf':Nat}{k k':WK}{kf kf':Nat}
 {gs:Array Goroutine} {w w':World} {t:Trace} {S:Nat→Nat→Prop} {V:Nat→World} {rk:Nat→Rk} {q:Nat→Nat} {g g':Goroutine} {es:Array Event} {sl:Option (Nat×Nat)} {n d:Nat}
theorem work_quit(h:bx (cw2 P ty J Wg c X Sh Sst Rm Fin hFin Zf zf hZ w0 m mf k kf) gs w t S V rk q)(hJ:J≠0)(hkl:k.lib=true)(hi:gs[J]? = some g)(hs:stepG P false g w=.go g' w' es)(hw:Aside Wg w w')(hq':QuitsD P n d g')(hd:Deaf (t++MemOp.ofEvents J g.frame.fn g.frame.place es) J=d)
  (hz:w'.heap[Wg]? = some (wgBlock ty (stV m .gone) (smV m .gone))) (hwk:m=.sem→mayWake P g=true) (hiv:ivP J Wg Sh Rm m.deaf k'.deaf (KJ2 J Wg m .gone) (ExK J Wg c w0.heap.size Zf Sst .gone) S w.heap.size (t++MemOp.ofEvents J g.frame.fn g.frame.place es)) :
  ∃gs' V' q',runT P (crowd gs w sl) J=(.next (crowd gs' w' sl),MemOp.ofEvents J g.frame.fn g.frame.place es)∧bx (cw2 P ty J Wg c X Sh Sst Rm Fin hFin Zf zf hZ w0 m mf .gone 0) gs' w' (t++MemOp.ofEvents J g.frame.fn g.frame.place es) S V' rk q':=by
 have hk:k≠.gone:=fun e=>by rw[e] at hkl;cases hkl
 have ej:=jOf_J (J:=J) hk
 have hJ0:(J==0)=false:=by simpa using hJ
 refine⟨_,_,_,runT_crowd_go hi (by rw[hJ0];exact hs),h.quit (C':=cw2 P ty J Wg c X Sh Sst Rm Fin hFin Zf zf hZ w0 m mf .gone 0) (i:=J) rfl (fun j=>?_) rfl (Ch:=fun b=>b=Wg) (fun b hb j hj=>hb▸h.trace.2.2.1 j hj) (js hw) (.inr ej.symm) hq' hd (fun j y hj hne hy=>?_) (fun b hb=>?_) ?_ fun j hj=>?_⟩
 ·show (j=0∨j=0)↔(j=0∨j=jOf J k)∧j≠J
  rw[ej]
  constructor
  ·rintro(rfl|rfl)
   ·exact⟨.inl rfl,fun e=>hJ e.symm⟩
   ·exact⟨.inl rfl,fun e=>hJ e.symm⟩
  ·rintro⟨x|x,y⟩
   ·exact .inl x
   ·exact absurd x y
 ·have hj0:j=0:=by
   rcases hj with x|x
   ·exact x
   ·exact absurd (x.trans ej) hne
  subst hj0
  have hq:=h.walk 0 y hj hy
  have hw2:=dp hz
  cases hr:rk 0 with
  | leaf=>
   rw[hr] at hq
   refine⟨fun _=>?_,fun e=>absurd rfl e⟩
   have h1:=hq.1 rfl
   rcases qm_run hFin h1 hw2 with hrun|⟨_,rfl,g0,rfl,h0⟩
   ·rw[woken_run hrun]
    cases m<;>first|exact h1|skip
    rcases h1 with h1|⟨_,g0,rfl,_⟩
    ·exact .inl h1
    ·exact absurd hrun (by simp)
   ·have:woken P g g' w' ({g0 with status:=.blocked} : Goroutine)=g0:=by
     have a2:(g'.status != .blocked&&g'.status != .waiting)=true:=by rcases hq'.status with e|e<;>rw[e]<;>rfl
     unfold woken
     rw[hwk rfl,Bool.true_and,if_pos a2]
     exact again_blocked h0.2.1 h0.1 w'
    rw[this]
    exact .inl (bs h0)
  | mk f=>
   rw[hr] at hq
   rw[woken_run hq.1]
   have hm:m=.own:=by
    by_cases e:m=.own
    ·exact e
    ·have:=h.still 0 (.inl ⟨rfl,e⟩)
     rw[hr] at this
     cases this
   subst hm
   have e2:(cw2 P ty J Wg c X Sh Sst Rm Fin hFin Zf zf hZ w0 .own mf k kf).Q 0=(cw2 P ty J Wg c X Sh Sst Rm Fin hFin Zf zf hZ w0 .own mf .gone 0).Q 0:=by
    funext a b
    show ((0=0→nh P true ty Wg Fin a)∧(0≠0→QW P ty Wg X.R X.D k kf a b))=((0=0→nh P true ty Wg Fin a)∧(0≠0→True))
    simp
   rw[←e2]
   exact hq
 ·refine⟨(h.common b hb).1,?_⟩
  show _=zOf ty Wg zf m .gone b
  unfold zOf
  by_cases e:b=Wg
  ·rw[if_pos e,e];exact hz
  ·rw[if_neg e,hw.block b e]
   have:=(h.common b hb).2
   change _=zOf ty Wg zf m k b at this
   unfold zOf at this
   rwa [if_neg e] at this
 ·exact hiv.alone
 ·rcases hj with e|⟨-,-,e⟩
  ·exact h.still j (.inl e)
  ·cases e
theorem cw2_live(hJ0:J≠0)(h:bx (cw2 P ty J Wg c X Sh Sst Rm Fin hFin Zf zf hZ w0 m mf k kf) gs w t S V rk q):(∀g∈gs,awake g)∧∃(i:Nat) (g:Goroutine),gs[i]? = some g∧g.status=.running:=by
 have hw:WgLive ty Wg w:=dp (ty:=ty) (Wg:=Wg) (by
  have:=(h.common Wg hZ).2
  change _=zOf ty Wg zf m k Wg at this
  unfold zOf at this
  rwa [if_pos rfl] at this)
 have h0:∀y,gs[0]? = some y→y.status=.running∨(k≠.gone∧y.status=.blocked):=fun y hy=>by
  have hq:=h.walk 0 y (.inl rfl) hy
  cases hr:rk 0 with
  | leaf=>
   rw[hr] at hq
   rcases qm_run hFin (hq.1 rfl) hw with x|⟨x,_,g0,rfl,_⟩
   ·exact .inl x
   ·exact .inr ⟨x,rfl⟩
  | mk f=>rw[hr] at hq;exact .inl hq.1
 have hJ:∀j y,j≠0→j=jOf J k→gs[j]? = some y→y.status=.running:=fun j y hne hj hy=>by
  obtain⟨e,hk⟩:=nK (J:=J) (k:=k) (by rw[←hj];exact hne)
  have hq:=h.walk j y (.inr hj) hy
  cases hr:rk j with
  | leaf=>rw[hr] at hq;exact qw_run X.runR X.runD (hq.2 hne) hk hw
  | mk f=>rw[hr] at hq;exact hq.1
 refine⟨fun y hy=>?_,?_⟩
 ·obtain⟨j,hlt,rfl⟩:=Array.mem_iff_getElem.1 hy
  have hy':gs[j]? = some gs[j]:=Array.getElem?_eq_getElem hlt
  by_cases e0:j=0
  ·subst e0
   exact awake_of ((h0 _ hy').imp id fun x=>.inl x.2)
  by_cases e1:j=jOf J k
  ·exact awake_of (.inl (hJ j _ e0 e1 hy'))
  ·exact awake_of ((h.old j _ (fun x=>x.elim e0 e1) hy').status.imp id .inr)
 ·have hy:gs[0]? = some (gs[0]'(h.here 0 (.inl rfl))):=Array.getElem?_eq_getElem _
  rcases h0 _ hy with x|⟨x,_⟩
  ·exact⟨0,_,hy,x⟩
  ·have e:=jOf_J (J:=J) x
   have hlt:=h.here J (.inr e.symm)
   exact⟨J,_,Array.getElem?_eq_getElem hlt,hJ J _ hJ0 e.symm (Array.getElem?_eq_getElem hlt)⟩
end
def frz:Obj→Obj
 | .cells cs t _=>.cells cs t (0,cs.size)
 | o=>o
open Classical in
noncomputable def maskAt(S R:Nat→Prop)(b:Nat)(o:Obj):Obj:=if S b then .cells #[] 0 (0,0) else if R b then frz o else o
noncomputable def mask(S R:Nat→Prop)(w:World):World:={w with heap:=w.heap.mapIdx (maskAt S R)}
section
variable {S R:Nat→Prop}{w:World}
theorem kh(b:Nat):(mask S R w).heap[b]? = (w.heap[b]?).map (maskAt S R b):=by
 show (w.heap.mapIdx (maskAt S R))[b]? = _
 simp[Array.getElem?_mapIdx]
theorem mask_same{b:Nat}(hs:¬S b)(hr:¬R b):(mask S R w).heap[b]? = w.heap[b]?:=by
 rw[kh]
 cases w.heap[b]? with
 | none=>rfl
 | some o=>show some (maskAt S R b o)=some o;unfold maskAt;rw[if_neg hs,if_neg hr]
theorem iZ(hp:∀(b:Nat) (o:Obj),¬S b→w.heap[b]? = some o→Obj.plain o)(hs:∀b:Nat,S b→b<w.heap.size)(hr:∀b:Nat,¬S b→R b→∃cs t fr,w.heap[b]? = some (.cells cs t fr)):View S R w (mask S R w):=by
 refine⟨rfl,rfl,rfl,rfl,by simp[mask],fun b h1 h2=>(mask_same h1 h2).symm,fun b h1 h2=>?_,fun b h1=>?_,fun b o h1=>?_⟩
 ·obtain⟨cs,t,fr,e⟩:=hr b h1 h2
  refine⟨cs,t,fr,cs.size,e,?_,Nat.le_refl _⟩
  rw[kh,e]
  show some (maskAt S R b _)=_
  unfold maskAt
  rw[if_neg h1,if_pos h2]
  rfl
 ·have hl:=hs b h1
  rw[kh,Array.getElem?_eq_getElem hl]
  show some (maskAt S R b _)=_
  unfold maskAt
  rw[if_pos h1]
 ·rw[kh] at h1
  obtain⟨o',e,rfl⟩:=Option.map_eq_some_iff.1 h1
  unfold maskAt
  split
  ·trivial
  ·rename_i h2
   have:=hp b o' h2 e
   split
   ·cases o'<;>exact this
   ·exact this
theorem mask_cell{a:Addr}(hs:¬S a.block):(mask S R w).cell? a=w.cell? a:=by
 unfold World.cell?
 rw[kh]
 cases w.heap[a.block]? with
 | none=>rfl
 | some o=>
  show (match some (maskAt S R a.block o) with|some (.cells c _ _)=>if a.spot.isSome then none else c[a.off]?|_=>none)=_
  unfold maskAt
  rw[if_neg hs]
  split
  ·rename_i e
   by_cases hr:R a.block
   ·rw[if_pos hr] at e
    cases o<;>simp_all [frz]
   ·rw[if_neg hr] at e
    obtain rfl:=Oi e
    rfl
  ·rename_i e
   by_cases hr:R a.block
   ·rw[if_pos hr] at e
    cases o<;>simp_all [frz]
   ·rw[if_neg hr] at e
    cases o<;>simp_all
end
end Go.Proofs.YtgigkennhdolpaaGreatDoor
