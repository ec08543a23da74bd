/- Company, 9: what a crew's trace keeps: no race; each walker knows all that was done in its blocks. Company, 10: what a crew's trace keeps where goroutines meet: operations that touch nothing; a block is handed on over an edge. Company, 15: a step at a stop, as the others see it; what the trace keeps then. Company, 16: a goroutine is started. Company, 17: two goroutines meet at a channel without a buffer: each knows what both knew. Company, 18: what a goroutine knew when it said that it was done; who joins it knows that. Company, 19: into a phase and out of it: the trace. Company, 20: a crew runs, where a walker at its stop may also block and be let try again. Company, 21: sync.WaitGroup's Add(1) and Wait for one worker, walked whatever the others do, as long as the group's block stays one. (The walks by the kit's words.) Company, 22: what the trace keeps in a phase with one worker (J) and one group (Wg). Company, 23: a crew of the starter and one worker (J; J = 0: the starter alone); a step at a stop leaves a crew. -/
import Derived.Test.YtgigkennhdolpaaGreatDoorM22
import Derived.Conc.CrowdTrace
import Derived.Conc.TokenTrace
import Derived.Conc.WgGenN3
namespace Go.Proofs.YtgigkennhdolpaaGreatDoor
open Go.Conc
def ji:Loc→Option Nat
 | .cell a=>some a.block
 | .obj r=>some r
 | _=>none
theorem mu{l:Loc}(h:l.isMemory=true):∃b,ji l=some b:=by
 cases l<;>first|exact⟨_,rfl⟩|cases h
structure Kn (act:Nat→Prop) (R:Nat→Nat→Prop) (S:Nat→Nat→Prop) (n:Nat) (t:Trace):Prop where
 clean:∀said,¬Race said t
 known:∀i,act i→∀k a,touchAt t k=some a→∀b,ji a.loc=some b→S i b∨(R i b∧a.write=false)∨Knows t i k
 seen:∀op∈t,op.act.low n
theorem kY{S R:Nat→Prop}{n:Nat}{e:Event}(h:EvS S R n e){x:Touch}(hx:(MemAct.ofEvent e).touch? = some x){b:Nat}(hb:ji x.loc=some b):¬S b∧b<n∧(x.write=true→¬R b):=by
 obtain⟨loc,wr,sy⟩:=e
 cases loc with
 | cell a=>
  obtain⟨h1,h2,h3⟩:=h
  simp only[MemAct.ofEvent,MemAct.touch?,Option.some.injEq] at hx
  subst hx
  obtain rfl:=Oi hb
  exact⟨h1,h2,h3⟩
 | obj r=>
  obtain⟨h1,h2,h3⟩:=h
  cases wr<;>cases sy<;>simp[MemAct.ofEvent,MemAct.touch?] at hx<;>subst hx<;>obtain rfl:=Oi hb<;>exact⟨h1,h2,fun _=>h3⟩
 | mark m=>
  have h:m=.noRoom:=h
  subst h
  simp[MemAct.ofEvent,MemAct.touch?] at hx
 | output=>exact h.elim
 | goroutines=>exact h.elim
theorem evS_low{S R:Nat→Prop}{n:Nat}{e:Event}(h:EvS S R n e):(MemAct.ofEvent e).low n:=by
 obtain⟨loc,wr,sy⟩:=e
 cases loc with
 | cell a=>exact h.2.1
 | obj r=>cases wr<;>cases sy<;>exact h.2.1
 | mark m=>
  have h:m=.noRoom:=h
  subst h
  trivial
 | output=>exact h.elim
 | goroutines=>exact h.elim
section
variable {act:Nat→Prop}{R S:Nat→Nat→Prop}{n n':Nat}{t:Trace}{i:Nat}{fn:FuncId}{pos:String}{es:Array Event}
theorem Kn.own(ha:act i)(h:Kn act R S n t)(hn:n≤n')(hd:∀j k:Nat,act j→act k→j≠k→∀b,b<n→S j b∨S k b∨R k b)(he:∀e∈es,EvS (S i) (R i) n' e) :
  Kn act R (fun j b=>S j b∨(j≠i∧n≤b∧b<n')) n' (t++MemOp.ofEvents i fn pos es):=by
 refine⟨fun said=>noRace_append (h.clean said) (fun op hop=>by obtain⟨e,_,rfl⟩:=Go.Conc.mem_ofEvents hop;rfl) fun k a hka op hop b hb hc=>?_,fun j hj k a hka b hb=>?_,fun op hop=>?_⟩
 ·obtain⟨e,hee,rfl⟩:=Go.Conc.mem_ofEvents hop
  obtain⟨c1,c2,c3,_⟩:=hc
  obtain⟨b0,hb0⟩:=mu c2
  obtain⟨q1,q2,q3⟩:=kY (he e hee) hb (c1▸hb0)
  rcases h.known i ha k a hka b0 hb0 with x|⟨x,y⟩|x
  ·exact(q1 x).elim
  ·rcases c3 with c3|c3
   ·rw[y] at c3;cases c3
   ·exact(q3 c3 x).elim
  ·exact x
 ·obtain⟨x,hx,hxa⟩:=touch_of hka
  rcases getElem?_append_cases hx with ⟨hi,hx'⟩|⟨_,hxu⟩
  ·rcases h.known j hj k a (by rw[touchAt_of hx'];exact hxa) b hb with y|y|y
   ·exact .inl (.inl y)
   ·exact .inr (.inl y)
   ·exact .inr (.inr (y.app _))
  ·obtain⟨e,hee,rfl⟩:=Go.Conc.mem_ofEvents hxu
   by_cases hji:j=i
   ·subst hji
    exact .inr (.inr (knows_own hx))
   ·obtain⟨q1,q2,q3⟩:=kY (he e hee) hxa hb
    by_cases hbn:b<n
    ·rcases hd j i hj ha hji b hbn with y|y|y
     ·exact .inl (.inl y)
     ·exact(q1 y).elim
     ·rcases hd i j ha hj (Ne.symm hji) b hbn with z|z|z
      ·exact(q1 z).elim
      ·exact .inl (.inl z)
      ·refine .inr (.inl ⟨z,?_⟩)
       cases hw:a.write with
       | false=>rfl
       | true=>exact(q3 hw y).elim
    ·exact .inl (.inr ⟨hji,by omega,q2⟩)
 ·rcases Array.mem_append.1 hop with x|x
  ·exact MemAct.low_mono hn (h.seen op x)
  ·obtain⟨e,hee,rfl⟩:=Go.Conc.mem_ofEvents x
   exact evS_low (he e hee)
theorem Kn.mute(h:Kn act R S n t)(hm:∀e∈es,Event.mute e=true):Kn act R S n (t++MemOp.ofEvents i fn pos es):=by
 refine⟨fun said=>noRace_append (h.clean said) (fun op hop=>by obtain⟨e,_,rfl⟩:=Go.Conc.mem_ofEvents hop;rfl) fun k a hka op hop b hb hc=>?_,fun j hj k a hka b hb=>?_,fun op hop=>?_⟩
 ·obtain⟨e,hee,rfl⟩:=Go.Conc.mem_ofEvents hop
  rw[touch_mute (hm e hee)] at hb
  cases hb
 ·obtain⟨x,hx,hxa⟩:=touch_of hka
  rcases getElem?_append_cases hx with ⟨hi,hx'⟩|⟨_,hxu⟩
  ·rcases h.known j hj k a (by rw[touchAt_of hx'];exact hxa) b hb with y|y|y
   ·exact .inl y
   ·exact .inr (.inl y)
   ·exact .inr (.inr (y.app _))
  ·obtain⟨e,hee,rfl⟩:=Go.Conc.mem_ofEvents hxu
   rw[touch_mute (hm e hee)] at hxa
   cases hxa
 ·rcases Array.mem_append.1 hop with x|x
  ·exact h.seen op x
  ·obtain⟨e,hee,rfl⟩:=Go.Conc.mem_ofEvents x
   exact low_mute (hm e hee) n
end
section
variable {act act':Nat→Prop}{R S S':Nat→Nat→Prop}{n n':Nat}{t:Trace}{i j:Nat}
theorem Kn.push(h:Kn act R S n t){op:MemOp}(hu:op.act.touch? = none)(hl:op.act.low n):Kn act R S n (t++#[op]):=by
 refine⟨fun said=>noRace_append (g:=op.g) (h.clean said) (fun x hx=>by simp at hx;rw[hx]) fun k a hka x hx b hb hc=>?_,fun j hj k a hka b hb=>?_,fun x hx=>?_⟩
 ·simp at hx
  rw[hx,hu] at hb
  cases hb
 ·obtain⟨x,hx,hxa⟩:=touch_of hka
  rcases getElem?_append_cases hx with ⟨hi,hx'⟩|⟨_,hxu⟩
  ·rcases h.known j hj k a (by rw[touchAt_of hx'];exact hxa) b hb with y|y|y
   ·exact .inl y
   ·exact .inr (.inl y)
   ·exact .inr (.inr (y.app _))
  ·simp at hxu
   rw[hxu,hu] at hxa
   cases hxa
 ·rcases Array.mem_append.1 hx with x|x
  ·exact h.seen _ x
  ·simp at x;rw[x];exact hl
theorem Kn.still:∀{l:List MemOp} {t:Trace},Kn act R S n t→(∀op∈l,op.act.touch? = none∧op.act.low n)→Kn act R S n (t++l.toArray)
 | [],t,h,_=>by simpa using h
 | op::l,t,h,hu=>by
  have h1:=h.push (hu op (by simp)).1 (hu op (by simp)).2
  have h2:=Kn.still (l:=l) h1 fun x hx=>hu x (by simp[hx])
  have e:t++(op::l).toArray=t++#[op]++l.toArray:=by
   rw[Array.append_assoc]
   congr 1
   simp
  rw[e]
  exact h2
theorem hb_edge{t:Trace}{p q:Nat}{x y:MemOp}(hx:t[p]? = some x)(hy:t[q]? = some y)(hn:Notices t p q)(h1:t.deaf x.g p=0)(h2:t.deaf y.g q=0):HappensBefore t p q:=
 .single (.inr ⟨hn,⟨x.g,by simp[Trace.g?,hx],h1⟩,⟨y.g,by simp[Trace.g?,hy],h2⟩⟩)
end
section
variable {P:Program}{C:Cw P}{gs:Array Goroutine}{w w':World}{t u:Trace}{S:Nat→Nat→Prop}{V:Nat→World}{rk:Nat→Rk}{q:Nat→Nat}
end
section
variable {act:Nat→Prop}{R S:Nat→Nat→Prop}{n:Nat}{t u:Trace}{i:Nat}
theorem Kn.act_(h:Kn act R S n t)(hu:∀op∈u,op.g=i)(hk:∀said k a,touchAt t k=some a→∀op∈u,∀b,op.act.touch? = some b→a.conflicts said b→Knows t i k)
  (hz:∀op∈u,∀b,op.act.touch? = some b→∀b0,ji b.loc=some b0→∀j,act j→j≠i→S j b0) (hl:∀op∈u,op.act.low n):Kn act R S n (t++u):=by
 refine⟨fun said=>noRace_append (h.clean said) hu fun k a hka op hop b hb hc=>hk said k a hka op hop b hb hc,fun j hj k a hka b hb=>?_,seen_app h.seen hl⟩
 obtain⟨x,hx,hxa⟩:=touch_of hka
 rcases getElem?_append_cases hx with ⟨_,hx'⟩|⟨_,hxu⟩
 ·rcases h.known j hj k a (by rw[touchAt_of hx'];exact hxa) b hb with y|y|y
  ·exact .inl y
  ·exact .inr (.inl y)
  ·exact .inr (.inr (y.app _))
 ·by_cases e:j=i
  ·have:=knows_own hx
   rw[hu x hxu,←e] at this
   exact .inr (.inr this)
  ·exact .inl (hz x hxu a hxa b hb j hj e)
end
section
variable {act act':Nat→Prop}{R S R' S':Nat→Nat→Prop}{n:Nat}{t:Trace}{j:Nat}{x y:MemOp}
theorem Kn.fork(h:Kn act R S n t)(h0:act 0)(hd0:Deaf t 0=0)(hdj:Deaf t j=0)(hx:x.g=0∧x.act=.go j)(hy:y.g=j∧y.act=.start)(hS:∀b,S 0 b→S' j b)(hR:∀b,R 0 b→S' j b∨R' j b)
  (hSo:∀i,act i→∀b,S i b→S' i b) (hRo:∀i,act i→∀b,R i b→S' i b∨R' i b) (ha:∀i,act' i→act i∨i=j):Kn act' R' S' n (t++#[x,y]):=by
 have hb:=h.still (l:=[x,y]) fun op hop=>by
  simp at hop
  rcases hop with rfl|rfl
  ·rw[hx.2];exact⟨rfl,trivial⟩
  ·rw[hy.2];exact⟨rfl,trivial⟩
 refine⟨hb.clean,fun i hi k a hka b hbl=>?_,hb.seen⟩
 rcases ha i hi with h1|rfl
 ·rcases hb.known i h1 k a hka b hbl with z|⟨z,z2⟩|z
  ·exact .inl (hSo i h1 b z)
  ·exact(hRo i h1 b z).imp id fun z=>.inl ⟨z,z2⟩
  ·exact .inr (.inr z)
 ·obtain⟨op,hop,hopa⟩:=touch_of hka
  rcases getElem?_append_cases hop with ⟨hi',hop'⟩|⟨_,hopu⟩
  ·rcases h.known 0 h0 k a (by rw[touchAt_of hop'];exact hopa) b hbl with z|⟨z,z2⟩|z
   ·exact .inl (hS b z)
   ·exact(hR b z).imp id fun z=>.inl ⟨z,z2⟩
   ·exact .inr (.inr (Go.ConcN.fork_knows hx hy hd0 hdj z))
  ·simp at hopu
   rcases hopu with rfl|rfl
   ·rw[hx.2] at hopa;cases hopa
   ·rw[hy.2] at hopa;cases hopa
end
section
variable {act:Nat→Prop}{R S:Nat→Nat→Prop}{n:Nat}{t:Trace}{i j:Nat}{x1 x2 x3 x4:MemOp}{c m:Nat}
end
section
variable {act:Nat→Prop}{R S:Nat→Nat→Prop}{Si Ri Si':Nat→Prop}{n p:Nat}{t u:Trace}{i:Nat}
theorem knows_acquired{a:Addr}{q:Nat}{x y:MemOp}(hpq:p<q)(hx:t[p]? = some x)(hy:t[q]? = some y)(hxa:x.act=.mark (.release a)∨x.act=.mark (.releaseMerge a))(hya:y.act=.mark (.acquire a))
  (hno:∀k,t.act? k≠some (.mark (.release a))) (h1:t.deaf x.g p=0) (h2:t.deaf y.g q=0):Knows t y.g p:=
 ⟨q,y,hy,rfl,.inr (hb_edge hx hy (.marked (a:=a) hpq (hxa.imp (fun e=>by simp[Trace.act?,hx,e]) fun e=>by simp[Trace.act?,hx,e]) (by simp[Trace.act?,hy,hya]) fun k _ _=>hno k) h1 h2)⟩
end
section
variable {act:Nat→Prop}{R S:Nat→Nat→Prop}{Shun:Loc→Prop}{n:Nat}{t:Trace}
theorem past_kn(h:Past Shun n t)(hS:∀l,Shun l→∃a:Addr,l=.cell a∧S 0 a.block)(ha:∀i,act i→i=0):Kn act R S n t:=by
 refine⟨h.clean,fun i hi k a hk b hb=>?_,h.seen⟩
 obtain rfl:=ha i hi
 have hm:a.loc.isMemory=true:=by
  cases e:a.loc<;>rw[e] at hb<;>first|rfl|cases hb
 rcases h.known k a hk hm with z|⟨z,_⟩
 ·exact .inr (.inr z)
 ·obtain⟨c,e1,e2⟩:=hS _ z
  rw[e1] at hb
  obtain rfl:=Oi hb
  exact .inl e2
end
open Go.ConcN (sumTo upd sumTo_upd upd_ne upd_same)
def cN(gs:Array Goroutine):Nat:=(gs.toList.filter fun g=>g.status==.running).length
section
variable {P:Program}{C:Cw P}{Φ:Value→World→Prop}
theorem jO(live:∀{gs w t S V rk q},bx C gs w t S V rk q→(∀g∈gs,awake g)∧∃(i:Nat) (g:Goroutine),gs[i]? = some g∧g.status=.running)
  (stop:∀{gs w sl t S V rk q i g},bx C gs w t S V rk q→C.act i→gs[i]? = some g→g.status=.running→rk i=.leaf→C.Q i g (V i)→∃m' ops,runT P (crowd gs w sl) i=(.next m',ops) ∧
   (Ends P Φ m' (t++ops)∨∃gs',m'=crowd gs' w sl∧gs'.size=gs.size∧cN gs'<cN gs∧bx C gs' w (t++ops) S V rk q)) :
  ∀{gs w sl t S V rk q},bx C gs w t S V rk q→Ends P Φ (crowd gs w sl) t:=by
 intro gs w sl t S V rk q h
 obtain⟨n,hn⟩:∃n,n=gs.size:=⟨_,rfl⟩
 obtain⟨M,hM⟩:∃M,sumTo gs.size q≤M:=⟨_,Nat.le_refl _⟩
 obtain⟨L,hL⟩:∃L,cN gs≤L:=⟨_,Nat.le_refl _⟩
 induction low_acc n rk generalizing gs w sl t S V q M L with
 | intro rk _ ih=>
 induction M using Nat.strongRecOn generalizing gs w sl t S V q L with
 | ind M ih2=>
 induction L using Nat.strongRecOn generalizing gs w sl t S V q with
 | ind L ih3=>
 obtain⟨h1,h2⟩:=live h
 obtain⟨i,g,d,sl',hi,hg,hst⟩:=crowd_pick (P:=P) (w:=w) (sl:=sl) h1 h2
 have h':=h.at_ d
 by_cases ha:C.act i
 ·cases hr:rk i with
  | leaf=>
   have hQ:=h'.walk i g ha hi
   rw[hr] at hQ
   obtain⟨m',ops,k1,k2|⟨gs',rfl,k2,k3,k4⟩⟩:=stop (sl:=sl') h' ha hi hg hr hQ
   ·exact Ends.next (hst.trans k1) k2
   ·exact Ends.next (hst.trans k1) (ih3 (cN gs') (by omega) k4 (by omega) (by rw[k2];exact hM) (Nat.le_refl _))
  | mk f=>
   obtain⟨g',w',es,S',V',rk',k1,k2,k3⟩:=h'.step ha hi hr sl'
   exact Ends.next (hst.trans k1) (ih rk' (hn▸k2) k3 (by simpa using hn) _ (Nat.le_refl _) _ (Nat.le_refl _))
 ·obtain⟨gs',es,k,k0,kz,k1,k2⟩:=h'.leave ha hi hg sl'
  have hlt:i<gs.size:=(Array.getElem?_eq_some_iff.1 hi).1
  have hsum:sumTo gs.size (upd q i k)+(k+1)=sumTo gs.size q+k:=by
   have:=sumTo_upd q k id hlt
   simpa[k0] using this
  exact Ends.next (hst.trans k1) (ih2 (M-1) (by omega) k2 (by omega) (by rw[kz];omega) _ (Nat.le_refl _))
end
end Go.Proofs.YtgigkennhdolpaaGreatDoor
namespace Go.Proofs.YtgigkennhdolpaaGreatDoor
open Go.Conc Go.ConcN Go.RowKit Go.Conc.Lib Go.ConcR.Gen Go.ConcN.Gen
open Go.ConcR (KK wgBlock WgAt stA smA rd wr mk DC0)
def Rl(ty:TypeId)(Wg:Nat)(w w₁:World):Prop:=WgLive ty Wg w→WgLive ty Wg w₁
theorem rl_trans{ty:TypeId}{Wg:Nat}(a b c:World)(h:Rl ty Wg a b)(k:Rl ty Wg b c):Rl ty Wg a c:=fun x=>k (h x)
section
variable (P:Program)(main:Bool)(ty:TypeId)(Wg:Nat)
def Lqn(Stop:Goroutine→Prop)(n:Nat)(g:Goroutine):Prop:=∀w,WgLive ty Wg w→Goes P main (Rl ty Wg) DC0 (fun g _=>Stop g) n g w
def Lq(Stop:Goroutine→Prop)(g:Goroutine):Prop:=∃n,Lqn P main ty Wg Stop n g
def AMk(m:Mark)(Nx:Goroutine→Prop)(g:Goroutine):Prop:=g.status=.running∧∃g',(∀w,stepG P main g w=.go g' w #[mk m])∧Nx g'
def AAdd(Nx:Goroutine→Prop)(g:Goroutine):Prop:=g.status=.running∧∃g',(∀w,WgAt ty Wg w 0 0→stepG P main g w=.go g' (w.setCell (stA Wg) (.int .u64 KK)) #[rd (stA Wg),wr (stA Wg)])∧Nx g'
def ALd(Nx:Goroutine→Prop)(g:Goroutine):Prop:=g.status=.running∧∃g',(∀w,WgAt ty Wg w 0 0→stepG P main g w=.go g' w #[rd (stA Wg)])∧Nx g'
def ALoad(N0 N1:Goroutine→Prop)(g:Goroutine):Prop:=g.status=.running∧(∃g',(∀w,WgAt ty Wg w 0 0→stepG P main g w=.go g' w #[rd (stA Wg)])∧N0 g')∧∃g',(∀w,WgAt ty Wg w KK 0→stepG P main g w=.go g' w #[rd (stA Wg)])∧N1 g'
def ACas(NH NM:Goroutine→Prop)(g:Goroutine):Prop:=
 g.status=.running∧(∃g',(∀w,WgAt ty Wg w KK 0→stepG P main g w=.go g' (w.setCell (stA Wg) (.int .u64 (KK+1))) #[rd (stA Wg),wr (stA Wg)])∧NH g')∧∃g',(∀w,WgAt ty Wg w 0 0→stepG P main g w=.go g' w #[rd (stA Wg)])∧NM g'
def ASem(Nx:Goroutine→Prop)(g:Goroutine):Prop:=
 g.status=.running∧g.offers=none∧(∀w,(∃st,WgAt ty Wg w st 0)→stepG P main g w=.go {g with status:=.blocked} w #[]) ∧
  ∃g',(∀w,WgAt ty Wg w 0 1→stepG P main g w=.go g' (w.setCell (smA Wg) (.int .u32 0)) (semEvents (smA Wg)))∧Nx g'
def AddW(Fin:Goroutine→Prop):Goroutine→Prop:=Lq P main ty Wg (AMk P main .disable (Lq P main ty Wg (AAdd P main ty Wg (Lq P main ty Wg (AMk P main (.read (smA Wg)) (Lq P main ty Wg (AMk P main .enable (Lq P main ty Wg Fin))))))))
def jl(Fin:Goroutine→Prop):Goroutine→Prop:=Lq P main ty Wg (AMk P main .enable (Lq P main ty Wg (AMk P main (.acquire (stA Wg)) (Lq P main ty Wg Fin))))
def WReg(Fin:Goroutine→Prop):Goroutine→Prop:=Lq P main ty Wg (AMk P main (.write (smA Wg)) (Lq P main ty Wg (ASem P main ty Wg (Lq P main ty Wg (ALd P main ty Wg (jl P main ty Wg Fin))))))
def WCas(Fin:Goroutine→Prop):Goroutine→Prop:=Lq P main ty Wg (ACas P main ty Wg (WReg P main ty Wg Fin) (Lq P main ty Wg (ALd P main ty Wg (jl P main ty Wg Fin))))
def nh(Fin:Goroutine→Prop):Goroutine→Prop:=Lq P main ty Wg (AMk P main .disable (Lq P main ty Wg (ALoad P main ty Wg (jl P main ty Wg Fin) (WCas P main ty Wg Fin))))
end
section
variable {P:Program}{main:Bool}{ty:TypeId}{Wg:Nat}{Stop:Goroutine→Prop}{n:Nat}{g g':Goroutine}{b:Frame}{a:Act}{k:List Item}{cs:List Frame}
theorem aB(hs:g.status=.running)(h:∀w,WgLive ty Wg w→(stepG P main g w).goes fun g' w' es=>DC0 w w' es∧Lqn P main ty Wg Stop n g'):Lqn P main ty Wg Stop (n+1) g:=fun w hw=>Goes.step hs fun w₁ h₁=>by
 have:=h w₁ (h₁ hw)
 revert this
 cases hst:stepG P main g w₁ with
 | go g' w' es=>
  rintro⟨⟨e1,e2⟩,h3⟩
  subst e1 e2
  exact⟨⟨rfl,rfl⟩,h3 _ (h₁ hw)⟩
 | _=>exact fun x=>x
theorem cY(hs:g.status=.running)(h:∀w,stepG P main g w=.go g' w #[])(k:Lqn P main ty Wg Stop n g'):Lqn P main ty Wg Stop (n+1) g:=aB hs fun w _=>by rw[h w];exact⟨⟨rfl,rfl⟩,k⟩
theorem bs(h:Stop g):Lqn P main ty Wg Stop n g:=fun _ _=>Goes.stop fun _ _=>h
theorem cL{x y:Code}(h:Lqn P main ty Wg Stop n (G (b.at a (.code x::.code y::k)) cs)):Lqn P main ty Wg Stop (n+1) (G (b.at a (.code (.seq x y)::k)) cs):=cY rfl (fun _=>stepG_seq) h
theorem cb(h:Lqn P main ty Wg Stop n (G (b.at a k) cs)):Lqn P main ty Wg Stop (n+1) (G (b.at a (.code .skip::k)) cs):=cY rfl (fun _=>stepG_skip) h
theorem az{ops:Array Oper}(h:Lqn P main ty Wg Stop n (G (b.at a k) cs)):Lqn P main ty Wg Stop (n+1) (G (b.at a (.inRegion ops []::k)) cs):=cY rfl (fun _=>stepG_region_end) h
theorem cH{id:Nat}{ops:Array Oper}(h:Lqn P main ty Wg Stop n (G (b.at a (.inRegion ops (List.range ops.size)::k)) cs)):Lqn P main ty Wg Stop (n+1) (G (b.at a (.code (.region id ops false)::k)) cs):=cY rfl (fun _=>stepG_region) h
theorem aD{c:Operand}{x y:Code}(hc:a.eval c=.bool true)(h:Lqn P main ty Wg Stop n (G (b.at a (.code x::k)) cs)):Lqn P main ty Wg Stop (n+1) (G (b.at a (.code (.cond c x y)::k)) cs):=cY rfl (fun _=>stepG_cond hc) h
theorem aA{c:Operand}{x y:Code}(hc:a.eval c=.bool false)(h:Lqn P main ty Wg Stop n (G (b.at a (.code y::k)) cs)):Lqn P main ty Wg Stop (n+1) (G (b.at a (.code (.cond c x y)::k)) cs):=cY rfl (fun _=>stepG_cond hc) h
theorem cM(h:Lqn P main ty Wg Stop n (G {b.at a (.code .ret::k) with mode:=.returning} cs)):Lqn P main ty Wg Stop (n+1) (G (b.at a (.code .ret::k)) cs):=cY rfl (fun _=>stepG_ret') h
theorem lw_end(h:Lqn P main ty Wg Stop n (G {b.at a [] with mode:=.returning} cs)):Lqn P main ty Wg Stop (n+1) (G (b.at a []) cs):=cY rfl (fun _=>stepG_end) h
theorem bQ{id:Nat}{c:Code}(h:Lqn P main ty Wg Stop n (G (b.at a (.code c::.inBlock id::k)) cs)):Lqn P main ty Wg Stop (n+1) (G (b.at a (.code (.block id c)::k)) cs):=cY rfl (fun _=>stepG_block) h
theorem cd{c:Code}(h:Lqn P main ty Wg Stop n (G (b.at a (.code c::.inLoop c::k)) cs)):Lqn P main ty Wg Stop (n+1) (G (b.at a (.code (.loop c)::k)) cs):=cY rfl (fun _=>stepG_loop) h
theorem bp{c:Code}(h:Lqn P main ty Wg Stop n (G (b.at a (.code c::.inLoop c::k)) cs)):Lqn P main ty Wg Stop (n+1) (G (b.at a (.inLoop c::k)) cs):=cY rfl (fun _=>stepG_inLoop) h
theorem aT{id:Nat}(h:Lqn P main ty Wg Stop n (G (b.at a k) cs)):Lqn P main ty Wg Stop (n+1) (G (b.at a (.inBlock id::k)) cs):=cY rfl (fun _=>stepG_inBlock) h
theorem cK{ops:Array Oper}{i:Nat}{rest:List Nat}{o:Oper}(ho:ops[i]? = some o)(hw:Region.wanted o (yielded ops a.tmps)=false)(h:Lqn P main ty Wg Stop n (G (b.at (a.put o.dst undef) (.inRegion ops rest::k)) cs)) :
  Lqn P main ty Wg Stop (n+1) (G (b.at a (.inRegion ops (i::rest)::k)) cs):=cY rfl (fun _=>stepG_unwanted ho hw) h
end
section
variable {P:Program}{L:WgLink}{Wg:Nat}{b₀:Frame}{a₀:Act}{ops₀:Array Oper}{i₀:Nat}{rest₀:List Nat}{k₀:List Item}{cs:List Frame}
def Back(b₀:Frame)(a₀:Act)(ops₀:Array Oper)(i₀:Nat)(rest₀:List Nat)(k₀:List Item)(cs:List Frame)(g:Goroutine):Prop:=g=G (b₀.at (a₀.put ((ops₀[i₀]?).bind (·.dst)) (.tuple #[])) (.inRegion ops₀ rest₀::k₀)) cs
end
theorem j9{P:Program} : ∀{n m d:Nat} {g:Goroutine},n≤m→QuitsD P n d g→QuitsD P m d g
 | 0,0,_,_,_,h=>h
 | 0,_+1,_,_,_,h=>.inl h
 | _+1,0,_,_,hn,_=>absurd hn (by omega)
 | _+1,_+1,_,_,hn,h=>h.imp id fun⟨h1,g',es,h2,h3,h4⟩=>⟨h1,g',es,h2,h3,j9 (by omega) h4⟩
section
variable (P:Program)(ty:TypeId)(Wg:Nat)
def ADec(NQ NW:Goroutine→Prop)(g:Goroutine):Prop:=
 g.status=.running∧(∃g',(∀w,WgAt ty Wg w KK 0→stepG P false g w=.go g' (w.setCell (stA Wg) (.int .u64 0)) #[rd (stA Wg),wr (stA Wg)])∧NQ g') ∧
  ∃g',(∀w,WgAt ty Wg w (KK+1) 0→stepG P false g w=.go g' (w.setCell (stA Wg) (.int .u64 1)) #[rd (stA Wg),wr (stA Wg)])∧NW g'
def ALd1(Nx:Goroutine→Prop)(g:Goroutine):Prop:=g.status=.running∧∃g',(∀w,WgAt ty Wg w 1 0→stepG P false g w=.go g' w #[rd (stA Wg)])∧Nx g'
def ASt0(Nx:Goroutine→Prop)(g:Goroutine):Prop:=g.status=.running∧∃g',(∀w,WgAt ty Wg w 1 0→stepG P false g w=.go g' (w.setCell (stA Wg) (.int .u64 0)) #[wr (stA Wg)])∧Nx g'
def ARel(Nx:Goroutine→Prop)(g:Goroutine):Prop:=g.status=.running∧mayWake P g=true∧∃g',(∀w,WgAt ty Wg w 0 0→stepG P false g w=.go g' (w.setCell (smA Wg) (.int .u32 1)) (semEvents (smA Wg)))∧Nx g'
def Qt(g:Goroutine):Prop:=∃q,QuitsD P q 1 g
def DRel:Goroutine→Prop:=Lq P false ty Wg (ARel P ty Wg (Qt P))
def DSt:Goroutine→Prop:=Lq P false ty Wg (ASt0 P ty Wg (DRel P ty Wg))
def DLd:Goroutine→Prop:=Lq P false ty Wg (ALd1 P ty Wg (DSt P ty Wg))
def DDec:Goroutine→Prop:=Lq P false ty Wg (ADec P ty Wg (Qt P) (DLd P ty Wg))
def DoneW:Goroutine→Prop:=Lq P false ty Wg (AMk P false (.releaseMerge (stA Wg)) (Lq P false ty Wg (AMk P false .disable (DDec P ty Wg))))
end
open Go.ConcR (stA smA)
def Outd(Sh:Nat→Prop)(t:Trace)(k:Nat)(a:Touch)(b:Nat):Prop:=a.kind=.atomic∧(∃ad,a.loc=.cell ad)∧Sh b∧∀g,t.g? k=some g→g≠0→t.counts k→∃j,t.g? j=some 0∧HappensBefore t k j
structure Xw (J Wg:Nat) (Sh:Nat→Prop) (KJ:Trace→Nat→Prop) (dm dw:Nat) (t:Trace):Prop where
 d0:Deaf t 0=dm
 dJ:Deaf t J=dw
 norel:∀(k:Nat) (a:Addr),t.act? k≠some (.mark (.release a))
 wg:∀k a,touchAt t k=some a→ji a.loc=some Wg→(a.kind=.plain→Knows t 0 k∧Knows t J k)∧(a.kind=.said→Knows t 0 k)
 all:∀k a,touchAt t k=some a→∀b,ji a.loc=some b→Knows t 0 k∨KJ t k∨Outd Sh t k a b
section
variable {J Wg:Nat}{Sh:Nat→Prop}{KJ KJ':Trace→Nat→Prop}{dm dw dm' dw':Nat}{t u:Trace}{n:Nat}{i:Nat}{fn:FuncId}{pos:String}{es:Array Event}{S R:Nat→Prop}
theorem Outd.app{k:Nat}{a:Touch}{b:Nat}(hk:k<t.size)(h:Outd Sh t k a b):Outd Sh (t++u) k a b:=by
 obtain⟨h1,h2,h3,h4⟩:=h
 refine⟨h1,h2,h3,fun g hg hne hc=>?_⟩
 obtain⟨j,hj,hb⟩:=h4 g (by simpa[Trace.g?,getElem?_append_old hk] using hg) hne ((counts_old hk).1 hc)
 have hjl:j<t.size:=by
  unfold Trace.g? at hj
  obtain⟨z,hz,_⟩:=Option.map_eq_some_iff.1 hj
  exact lt_size_of_getElem? hz
 exact⟨j,by simpa[Trace.g?,getElem?_append_old hjl] using hj,hb_app u hb⟩
theorem Xw.app(h:Xw J Wg Sh KJ dm dw t)(h0:Deaf (t++u) 0=dm')(hJ:Deaf (t++u) J=dw')(hrel:∀op∈u,∀a:Addr,op.act≠.mark (.release a))
  (hwg:∀op∈u,∀x,op.act.touch? = some x→ji x.loc=some Wg→x.kind≠.plain∧(x.kind=.said→op.g=0)) (hKJ:∀k,KJ t k→KJ' (t++u) k)
  (hall:∀(p:Nat) (op:MemOp),(t++u)[p]? = some op→t.size≤p→op∈u→∀x,op.act.touch? = some x→∀b,ji x.loc=some b→op.g=0∨KJ' (t++u) p∨Outd Sh (t++u) p x b):Xw J Wg Sh KJ' dm' dw' (t++u):=by
 refine⟨h0,hJ,kN h.norel hrel,fun k a hk hb=>?_,fun k a hk b hb=>?_⟩
 ·obtain⟨x,hx,hxa⟩:=touch_of hk
  rcases getElem?_append_cases hx with ⟨_,hx'⟩|⟨_,hxu⟩
  ·obtain⟨q1,q2⟩:=h.wg k a (by rw[touchAt_of hx'];exact hxa) hb
   exact⟨fun e=>⟨(q1 e).1.app u,(q1 e).2.app u⟩,fun e=>(q2 e).app u⟩
  ·obtain⟨q1,q2⟩:=hwg x hxu a hxa hb
   exact⟨fun e=>absurd e q1,fun e=>by have:=knows_own hx;rwa [q2 e] at this⟩
 ·obtain⟨x,hx,hxa⟩:=touch_of hk
  rcases getElem?_append_cases hx with ⟨hlt,hx'⟩|⟨hge,hxu⟩
  ·rcases h.all k a (by rw[touchAt_of hx'];exact hxa) b hb with z|z|z
   ·exact .inl (z.app u)
   ·exact .inr (.inl (hKJ k z))
   ·exact .inr (.inr (z.app hlt))
  ·rcases hall k x hx hge hxu a hxa b hb with z|z|z
   ·have:=knows_own hx
    rw[z] at this
    exact .inl this
   ·exact .inr (.inl z)
   ·exact .inr (.inr z)
theorem Deaf_quiet{g:Nat}(hq:∀op∈u,∀d,deafStep g d op=d):Deaf (t++u) g=Deaf t g:=by
 have:=deaf_quiet (t:=t) (u:=u) (g:=g) hq u.size (Nat.le_refl _)
 unfold Deaf at this ⊢
 rwa [Array.size_append]
theorem evS_word{e:Event}(h:EvS S R n e):∀m,MemAct.ofEvent e≠.mark m∨m=.noRoom:=by
 obtain⟨loc,wr,sy⟩:=e
 intro m
 cases loc with
 | cell a=>exact .inl (by simp[MemAct.ofEvent])
 | obj r=>exact .inl (by cases wr<;>cases sy<;>simp[MemAct.ofEvent])
 | mark m'=>
  have h:m'=.noRoom:=h
  subst h
  by_cases e:m=.noRoom
  ·exact .inr e
  ·exact .inl (by simp[MemAct.ofEvent];exact fun x=>e x.symm)
 | output=>exact h.elim
 | goroutines=>exact h.elim
theorem evS_deaf{e:Event}(h:EvS S R n e)(g d k:Nat):deafStep g d {g:=k,fn,pos,act:=.ofEvent e} = d:=by
 unfold deafStep
 have hw:=evS_word h
 cases ha:MemAct.ofEvent e with
 | mark m=>
  cases m<;>first|rfl|(rcases hw _ with x|x<;>first|(exact absurd ha x)|(cases x))
 | _=>rfl
theorem Xw.own(h:Xw J Wg Sh KJ dm dw t)(hS:S Wg)(he:∀e∈es,EvS S R n e)(hKJ:∀(u:Trace) k,KJ t k→KJ (t++u) k)(hi:i=0∨∀(u:Trace) (p:Nat) (y:MemOp),(t++u)[p]? = some y→y.g=i→(∀(x:Touch) (b:Nat),y.act.touch? = some x→ji x.loc=some b→¬S b)→KJ (t++u) p):Xw J Wg Sh KJ dm dw (t++MemOp.ofEvents i fn pos es):=by
 refine h.app ((Deaf_quiet fun op hop d=>?_).trans h.d0) ((Deaf_quiet fun op hop d=>?_).trans h.dJ) (fun op hop=>?_) (fun op hop x hx hb=>?_) (fun k z=>hKJ _ k z) fun p op hp _ hop x hx b hb=>?_
 ·obtain⟨e,hee,rfl⟩:=Go.Conc.mem_ofEvents hop
  exact evS_deaf (he e hee) _ _ _
 ·obtain⟨e,hee,rfl⟩:=Go.Conc.mem_ofEvents hop
  exact evS_deaf (he e hee) _ _ _
 ·obtain⟨e,hee,rfl⟩:=Go.Conc.mem_ofEvents hop
  exact evS_norel (he e hee)
 ·obtain⟨e,hee,rfl⟩:=Go.Conc.mem_ofEvents hop
  exact absurd hS (kY (he e hee) hx hb).1
 ·obtain⟨e,hee,rfl⟩:=Go.Conc.mem_ofEvents hop
  rcases hi with rfl|hi
  ·exact .inl rfl
  ·exact .inr (.inl (hi _ p _ hp rfl fun x b hx hb=>(kY (he e hee) hx hb).1))
theorem Xw.mute(h:Xw J Wg Sh KJ dm dw t)(hi0:i≠0)(hiJ:i≠J)(he:∀e∈es,Event.mute e=true)(hKJ:∀(u:Trace) k,KJ t k→KJ (t++u) k):Xw J Wg Sh KJ dm dw (t++MemOp.ofEvents i fn pos es):=by
 have hg:∀op∈MemOp.ofEvents i fn pos es,op.g=i:=fun op hop=>by obtain⟨e,_,rfl⟩:=Go.Conc.mem_ofEvents hop;rfl
 refine h.app ((Deaf_other t hi0 _ hg).trans h.d0) ((Deaf_other t hiJ _ hg).trans h.dJ) (fun op hop=>?_) (fun op hop x hx hb=>?_) (fun k z=>hKJ _ k z) fun p op hp _ hop x hx b hb=>?_
 ·obtain⟨e,hee,rfl⟩:=Go.Conc.mem_ofEvents hop
  exact mute_norel (he e hee)
 ·obtain⟨e,hee,rfl⟩:=Go.Conc.mem_ofEvents hop
  rw[touch_mute (he e hee)] at hx
  cases hx
 ·obtain⟨e,hee,rfl⟩:=Go.Conc.mem_ofEvents hop
  rw[touch_mute (he e hee)] at hx
  cases hx
end
open Go.ConcN (sumTo upd sumTo_upd upd_ne upd_same)
def cwP(P:Program)(J Wg:Nat)(Sh Rm:Nat→Prop)(L:Nat→Prop)(Q:Nat→Goroutine→World→Prop)(Zb:Nat→Prop)(z:Nat→Option Obj)(dm dw:Nat)(KJ:Trace→Nat→Prop)(Ex:(Nat→Nat→Prop)→Nat→Prop)(w0:World)
  (later:∀{i:Nat} {g:Goroutine} {W W1:World},Q i g W→Rv W W1→Q i g W1)
  (woke:∀{i:Nat} {g p p':Goroutine} {W w':World},Q i g W→(∀b,Zb b→w'.heap[b]? = z b)→Q i (woken P p p' w' g) W)
  (kj:∀(t u:Trace) (k:Nat),KJ t k→KJ (t++u) k) (ko:J≠0→¬L J→∀(S:Nat→Nat→Prop) (n:Nat),Ex S n→∀(t:Trace) (p:Nat) (y:MemOp),t[p]? = some y→y.g=J→(∀(x:Touch) (b:Nat),y.act.touch? = some x→ji x.loc=some b→¬S J b)→KJ t p)
  (ex:∀{S:Nat→Nat→Prop} {n n' i:Nat},i=0∨i=J→¬L i→n≤n'→Ex S n→Ex (fun j b=>S j b∨(j≠i∧n≤b∧b<n')) n'):Cw P where
 act:=fun i=>i=0∨i=J
 zero:=.inl rfl
 lib:=L
 w0:=w0
 Q:=Q
 R:=fun _=>Rm
 Zb:=Zb
 z:=z
 Iv:=fun S n t=>Kn (fun i=>i=0∨i=J) (fun _=>Rm) S n t∧Xw J Wg Sh KJ dm dw t∧(∀i,i=0∨i=J→S i Wg)∧Ex S n
 later:=later
 woke:=woke
 own:=fun ha hl h hn hd he=>⟨h.1.own ha hn hd he,h.2.1.own (h.2.2.1 _ ha) he (fun u k z=>kj _ u k z) (by
  rcases ha with e|e
  ·exact .inl e
  ·by_cases h0:J=0
   ·exact .inl (e.trans h0)
   ·exact .inr fun u p y hy hg hs=>ko h0 (e▸hl) _ _ h.2.2.2 _ p y hy (hg.trans e) fun x b hx hb=>e▸hs x b hx hb),fun i hi=>.inl (h.2.2.1 i hi),ex ha hl hn h.2.2.2⟩
 mute:=fun ha h hm=>⟨h.1.mute hm,h.2.1.mute (fun e=>ha (.inl e)) (fun e=>ha (.inr e)) hm (fun u k z=>kj _ u k z),h.2.2⟩
section
variable {P:Program}{C C':Cw P}{gs gs':Array Goroutine}{w w' W:World}{t u:Trace}{S:Nat→Nat→Prop}{V:Nat→World}{rk rk':Nat→Rk}{q:Nat→Nat}{i j:Nat}{g g' g1 g2:Goroutine}
structure om (Zb:Nat→Prop) (w w':World):Prop where
 size:w'.heap.size=w.heap.size
 heap:∀b:Nat,¬Zb b→w'.heap[b]? = w.heap[b]?
 os:w'.os=w.os
 tape:w'.tape=w.tape
 output:w'.output=w.output
theorem om.refl(Zb:Nat→Prop)(w:World):om Zb w w:=⟨rfl,fun _ _=>rfl,rfl,rfl,rfl⟩
theorem View.same_{S R Zb:Nat→Prop}(h:View S R w W)(k:om Zb w w')(hz:∀b,Zb b→S b):View S R w' (W.at w'.drawn):=
 ⟨k.tape.trans h.tape,rfl,k.os.trans h.os,k.output.trans h.output,k.size.trans h.size,fun b h1 h2=>(k.heap b fun x=>h1 (hz b x)).trans (h.same b h1 h2),fun b h1 h2=>by rw[k.heap b fun x=>h1 (hz b x)];exact h.lent b h1 h2,h.pois,h.plain⟩
theorem bx.re(h:bx C gs w t S V rk q)(hw0:C'.w0=C.w0)(hact:∀j,C'.act j↔C.act j)(hR:C'.R=C.R)(hs:gs'.size=gs.size){Ch:Nat→Prop}(hch:∀b,Ch b→∀j,C.act j→S j b)(hw:om Ch w w')
  (walk:∀(j:Nat) (y:Goroutine),C.act j→gs'[j]? = some y→GsR P (C'.Q j) (rk' j) y (V j))
  (zb:∀b:Nat,C'.Zb b→(∀j,C.act j→S j b∨C.R j b)∧w'.heap[b]? = C'.z b) (old:∀(j:Nat) (y:Goroutine),¬C.act j→gs'[j]? = some y→QuitsD P (q j) (Deaf t j) y) (hu:∀op∈u,C.act op.g∧op.g<gs.size)
  (iv:C'.Iv S w.heap.size (t++u)) (still:∀j:Nat,C'.lib j→rk' j=.leaf):bx C' gs' w' (t++u) S (fun j=>(V j).at w'.drawn) rk' q:=by
 have hdf:∀j,(¬C.act j∨gs.size≤j)→Deaf (t++u) j=Deaf t j:=fun j hj=>Deaf_quiet fun op hop d=>by
  have hne:op.g≠j:=fun e=>by
   obtain⟨h1,h2⟩:=hu op hop
   rcases hj with hj|hj
   ·exact hj (e▸h1)
   ·omega
  unfold deafStep
  split<;>first|rfl|exact if_neg hne
 refine⟨fun k y hk hy=>GsR.at_ (Q:=C'.Q k) (fun h r=>C'.later h r) (walk k y ((hact k).1 hk) hy) _,fun k hk=>?_,fun a b ha hb hne x hx=>?_,fun b hb=>⟨fun k hk=>by rw[hR];exact(zb b hb).1 k ((hact k).1 hk),(zb b hb).2⟩,fun k y hk hy=>?_,fun k hk=>?_,by rw[hw.size];exact iv,still,fun k hk=>by rw[hs];exact h.here k ((hact k).1 hk),by rw[hw0];exact⟨hw.os.trans h.base.os,hw.tape.trans h.base.tape,hw.output.trans h.base.output⟩⟩
 ·rw[hR]
  exact(h.view k ((hact k).1 hk)).same_ hw fun b hb=>hch b hb k ((hact k).1 hk)
 ·rw[hR]
  exact h.apart a b ((hact a).1 ha) ((hact b).1 hb) hne x (by rw[←hw.size];exact hx)
 ·rw[hdf k (.inl fun x=>hk ((hact k).2 x))]
  exact old k y (fun x=>hk ((hact k).2 x)) hy
 ·rw[hdf k (.inr (by rw[←hs];exact hk))]
  exact h.above k (by rw[←hs];exact hk)
theorem kV{p p':Goroutine}{y:Goroutine}(h:((gs.map (woken P p p' w')).setIfInBounds i g')[j]? = some y):(j=i∧i<gs.size∧y=g')∨(j≠i∧∃x,gs[j]? = some x∧y=woken P p p' w' x):=by
 by_cases e:j=i
 ·subst e
  by_cases hl:j<gs.size
  ·rw[Array.getElem?_setIfInBounds_self_of_lt (by simpa using hl)] at h
   exact .inl ⟨rfl,hl,(Oi h).symm⟩
  ·rw[Array.getElem?_eq_none (by simpa using hl)] at h;cases h
 ·rw[Array.getElem?_setIfInBounds_ne (Ne.symm e),Array.getElem?_map] at h
  obtain⟨x,hx,rfl⟩:=Option.map_eq_some_iff.1 h
  exact .inr ⟨e,x,hx,rfl⟩
theorem jI{y:Goroutine}(h:(gs.setIfInBounds i g')[j]? = some y):(j=i∧i<gs.size∧y=g')∨(j≠i∧gs[j]? = some y):=by
 by_cases e:j=i
 ·subst e
  by_cases hl:j<gs.size
  ·rw[Array.getElem?_setIfInBounds_self_of_lt hl] at h
   exact .inl ⟨rfl,hl,(Oi h).symm⟩
  ·rw[Array.getElem?_eq_none (by simpa using hl)] at h;cases h
 ·rw[Array.getElem?_setIfInBounds_ne (Ne.symm e)] at h
  exact .inr ⟨e,h⟩
theorem bx.reGo(h:bx C gs w t S V rk q)(hw0:C'.w0=C.w0)(hact:∀j,C'.act j↔C.act j)(hR:C'.R=C.R){Ch:Nat→Prop}(hch:∀b,Ch b→∀j,C.act j→S j b)(hw:om Ch w w'){p p':Goroutine}(ha:C.act i)(hi:gs[i]? = some g){r:Rk}(hg:GsR P (C'.Q i) r g' (V i))
  (walk:∀(j:Nat) (y:Goroutine),C.act j→j≠i→gs[j]? = some y→GsR P (C'.Q j) (rk j) (woken P p p' w' y) (V j))
  (zb:∀b:Nat,C'.Zb b→(∀j,C.act j→S j b∨C.R j b)∧w'.heap[b]? = C'.z b) {fn:FuncId} {pos:String} {es:Array Event}
  (iv:C'.Iv S w.heap.size (t++MemOp.ofEvents i fn pos es)) (still:∀j:Nat,C'.lib j→(j≠i→rk j=.leaf)∧(j=i→r=.leaf)) :
  bx C' ((gs.map (woken P p p' w')).setIfInBounds i g') w' (t++MemOp.ofEvents i fn pos es) S (fun j=>(V j).at w'.drawn) (upd rk i r) q:=by
 have hlt:i<gs.size:=(Array.getElem?_eq_some_iff.1 hi).1
 refine h.re hw0 hact hR (by simp) hch hw (fun k y hk hy=>?_) zb (fun k y hk hy=>?_) (fun op hop=>by obtain⟨e,_,rfl⟩:=Go.Conc.mem_ofEvents hop;exact⟨ha,hlt⟩) iv fun k hk=>?_
 ·rcases kV hy with ⟨rfl,_,rfl⟩|⟨e,x,hx,rfl⟩
  ·rw[upd_same];exact hg
  ·rw[upd_ne rk r e];exact walk k x hk e hx
 ·rcases kV hy with ⟨rfl,_,rfl⟩|⟨e,x,hx,rfl⟩
  ·exact(hk ha).elim
  ·rw[woken_quitsD (h.old k x hk hx)];exact h.old k x hk hx
 ·by_cases e:k=i
  ·subst e;rw[upd_same];exact(still k hk).2 rfl
  ·rw[upd_ne rk r e];exact(still k hk).1 e
theorem bx.reSet(h:bx C gs w t S V rk q)(hw0:C'.w0=C.w0)(hact:∀j,C'.act j↔C.act j)(hR:C'.R=C.R){Ch:Nat→Prop}(hch:∀b,Ch b→∀j,C.act j→S j b)(hw:om Ch w w')(ha:C.act i)(hi:gs[i]? = some g){r:Rk}(hg:GsR P (C'.Q i) r g' (V i))
  (walk:∀(j:Nat) (y:Goroutine),C.act j→j≠i→gs[j]? = some y→GsR P (C'.Q j) (rk j) y (V j))
  (zb:∀b:Nat,C'.Zb b→(∀j,C.act j→S j b∨C.R j b)∧w'.heap[b]? = C'.z b) (hu:∀op∈u,op.g=i)
  (iv:C'.Iv S w.heap.size (t++u)) (still:∀j:Nat,C'.lib j→(j≠i→rk j=.leaf)∧(j=i→r=.leaf)) :
  bx C' (gs.setIfInBounds i g') w' (t++u) S (fun j=>(V j).at w'.drawn) (upd rk i r) q:=by
 have hlt:i<gs.size:=(Array.getElem?_eq_some_iff.1 hi).1
 refine h.re hw0 hact hR (by simp) hch hw (fun k y hk hy=>?_) zb (fun k y hk hy=>?_) (fun op hop=>by rw[hu op hop];exact⟨ha,hlt⟩) iv fun k hk=>?_
 ·rcases jI hy with ⟨rfl,_,rfl⟩|⟨e,hx⟩
  ·rw[upd_same];exact hg
  ·rw[upd_ne rk r e];exact walk k y hk e hx
 ·rcases jI hy with ⟨rfl,_,rfl⟩|⟨e,hx⟩
  ·exact(hk ha).elim
  ·exact h.old k y hk hx
 ·by_cases e:k=i
  ·subst e;rw[upd_same];exact(still k hk).2 rfl
  ·rw[upd_ne rk r e];exact(still k hk).1 e
theorem bx.reMeet(h:bx C gs w t S V rk q)(hw0:C'.w0=C.w0)(hact:∀j,C'.act j↔C.act j)(hR:C'.R=C.R){Ch:Nat→Prop}(hch:∀b,Ch b→∀j,C.act j→S j b)(hw:om Ch w w')(ha:C.act i)(hb:C.act j)(hij:j≠i)(hi:i<gs.size)(hj:j<gs.size)(hall:∀k,C.act k→k=i∨k=j)
  {r1 r2:Rk} (h1:GsR P (C'.Q i) r1 g1 (V i)) (h2:GsR P (C'.Q j) r2 g2 (V j)) (zb:∀b:Nat,C'.Zb b→(∀j,C.act j→S j b∨C.R j b)∧w'.heap[b]? = C'.z b) (hu:∀op∈u,op.g=i∨op.g=j)
  (iv:C'.Iv S w.heap.size (t++u)) (still:∀j:Nat,¬C'.lib j) :
  bx C' ((gs.setIfInBounds j g2).setIfInBounds i g1) w' (t++u) S (fun j=>(V j).at w'.drawn) (upd (upd rk j r2) i r1) q:=by
 refine h.re hw0 hact hR (by simp) hch hw (fun k y hk hy=>?_) zb (fun k y hk hy=>?_) (fun op hop=>?_) iv fun k hk=>(still k hk).elim
 ·rcases jI hy with ⟨rfl,_,rfl⟩|⟨e,hx⟩
  ·rw[upd_same];exact h1
  ·rcases jI hx with ⟨rfl,_,rfl⟩|⟨e',hx'⟩
   ·rw[upd_ne _ _ e,upd_same];exact h2
   ·exact((hall k hk).elim (fun x=>e x) fun x=>e' x).elim
 ·rcases jI hy with ⟨rfl,_,rfl⟩|⟨e,hx⟩
  ·exact(hk ha).elim
  ·rcases jI hx with ⟨rfl,_,rfl⟩|⟨e',hx'⟩
   ·exact(hk hb).elim
   ·exact h.old k y hk hx'
 ·rcases hu op hop with e|e
  ·rw[e];exact⟨ha,hi⟩
  ·rw[e];exact⟨hb,hj⟩
end
end Go.Proofs.YtgigkennhdolpaaGreatDoor
