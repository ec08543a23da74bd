/- Company, 36: the go statement; a phase with one worker, from Add's entry, leads to a good end. Company, 13: code walked in one world of goroutines, in one frame: for pieces whose steps are told by hand. (The rules: by program, gen13j.py, from XJ1's.) Company, 37: words for code told step by step: in one world of goroutines, with a table of what the temporaries hold. -/
import Derived.Test.YtgigkennhdolpaaGreatDoorM27
import Derived.Test.YtgigkennhdolpaaGreatDoorM3
import Derived.Test.YtgigkennhdolpaaGreatDoorM13
import Derived.Test.YtgigkennhdolpaaGreatDoorM10
import Derived.Test.YtgigkennhdolpaaGreatDoorM4
namespace Go.Proofs.YtgigkennhdolpaaGreatDoor
open Go.Conc Go.ConcN
open Go.ConcN (sumTo upd sumTo_upd upd_ne upd_same)
open Go.ConcR (KK wgBlock WgAt stA smA rd wr mk DC0)
section
variable {P:Program}{ty:TypeId}{Wg c:Nat}{Rm:Nat→Prop}{Fa:Goroutine→Prop}{hFa:∀g,Fa g→g.status=.running}{Cl D:Goroutine→World→Prop}{hC:∀{g W W1},Cl g W→Rv W W1→Cl g W1}{hCr:∀g W,Cl g W→g.status=.running}{hD:∀{g W W1},D g W→Rv W W1→D g W1}{hcw:c≠Wg}{vs:List Value}
 {hQ:∀{g W W1},GoQ P c Rm Cl D vs g W→Rv W W1→GoQ P c Rm Cl D vs g W1} {hQr:∀g W,GoQ P c Rm Cl D vs g W→g.status=.running}
 {Sst:Nat→Prop} {zs:Nat→Option Obj} {w0:World} {s r:Nat} {tm:Bool} {k k':AK} {n n':Nat}
 {gs:Array Goroutine} {w w' W:World} {t:Trace} {S:Nat→Nat→Prop} {V:Nat→World} {rk:Nat→Rk} {q:Nat→Nat} {g g':Goroutine} {es:Array Event} {sl:Option (Nat×Nat)} {Φ:Value→World→Prop} {w00:World} {S0:Nat→Prop}
open Classical in
set_option maxHeartbeats 4000000 in
theorem fork_go(hRS:∀b,Rm b→¬Sst b∧b≠c∧b≠Wg)(h:bx (cwA P ty Wg c Fa hFa (GoQ P c Rm Cl D vs) hQ hQr Sst Rm zs w0 s r tm .ow n) gs w t S V rk q)(hi:gs[0]? = some g)(hm:GoQ P c Rm Cl D vs g (V 0)) :
  ∃gs' S' V' rk' ops,runT P (crowd gs w sl) 0=(.next (crowd gs' w sl),ops)∧gs.size≠0∧bx (cw0 P ty gs.size Wg c Cl D hC hCr hD hcw Sst Rm zs w0 vs false false s r tm) gs' w (t++ops) S' V' rk' q:=by
 obtain⟨-,g1,child,hst,hro,hg1,hch⟩:=hm
 have hI:ivP 0 Wg (Sjn Wg Sst) Rm 0 0 (fun _ _=>False) (ExA Wg c w0.heap.size Sst) S w.heap.size t:=h.trace
 obtain⟨x1,x2,x3,x4,x6,x5⟩:=hI.2.2.2
 have hlt0:=h.here 0 (.inl rfl)
 have hJ:gs.size≠0:=by omega
 obtain⟨J,hJe⟩:∃J,J=gs.size:=⟨_,rfl⟩
 have hv0:=h.view 0 (.inl rfl)
 have hRn:∀b,Rm b→¬S 0 b:=fun b hr hs=>by
  obtain⟨a1,a2,a3⟩:=hRS b hr
  rcases x4 b hs with e|e|e
  ·exact a1 e
  ·exact a2 e
  ·exact a3 e
 let S':Nat→Nat→Prop:=fun j b=>if j=0 then b<w.heap.size∧¬Rm b else S 0 b
 have hS'0:S' 0=fun b=>b<w.heap.size∧¬Rm b:=by funext b;exact if_pos rfl
 have hS'J:∀j,j≠0→S' j=S 0:=fun j hj=>by funext b;exact if_neg hj
 have hblank:=iZ (S:=S' 0) (R:=Rm) (w:=w) (fun b o hb ho=>by
  rw[hS'0] at hb
  have hlt:=(Array.getElem?_eq_some_iff.1 ho).1
  by_cases hr:Rm b
  ·obtain⟨cs,tt,fr,hh,e1,-,-⟩:=hv0.lent b (hRn b hr) hr
   rw[ho] at e1
   obtain rfl:=Oi e1
   trivial
  ·exact absurd ⟨hlt,hr⟩ hb) (fun b hb=>by rw[hS'0] at hb;exact hb.1) (fun b _ hb=>by
   obtain⟨cs,tt,fr,hh,e1,-,-⟩:=hv0.lent b (hRn b hb) hb
   exact⟨cs,tt,fr,e1⟩)
 have hV0:∀b,Rm b→∃cs tt fr hi,w.heap[b]? = some (.cells cs tt fr)∧(V 0).heap[b]? = some (.cells cs tt (0,hi))∧cs.size≤hi:=fun b hb=>hv0.lent b (hRn b hb) hb
 -- the starter's new view: the lent blocks as it saw them
 let Wb:World:={mask (S' 0) Rm w with heap:=(mask (S' 0) Rm w).heap.mapIdx fun b o=>if Rm b then((V 0).heap[b]?).getD o else o}
 have hWb:∀b:Nat,Wb.heap[b]? = (mask (S' 0) Rm w).heap[b]?.map fun o=>if Rm b then((V 0).heap[b]?).getD o else o:=fun b=>by
  show ((mask (S' 0) Rm w).heap.mapIdx _)[b]? = _
  simp[Array.getElem?_mapIdx]
 have hsz:Wb.heap.size=(mask (S' 0) Rm w).heap.size:=by show ((mask (S' 0) Rm w).heap.mapIdx _).size=_;simp
 have hbl:∀b:Nat,Rm b→Wb.heap[b]? = (V 0).heap[b]?:=fun b hb=>by
  obtain⟨cs,tt,fr,hh,e1,e2,e3⟩:=hV0 b hb
  obtain⟨o,ho⟩:∃o,(mask (S' 0) Rm w).heap[b]? = some o:=by
   have hl:b<(mask (S' 0) Rm w).heap.size:=by rw[←hblank.size];exact(Array.getElem?_eq_some_iff.1 e1).1
   exact⟨_,Array.getElem?_eq_getElem hl⟩
  rw[hWb,ho,e2]
  show some (if Rm b then _ else _)=_
  rw[if_pos hb]
  rfl
 have hvb:View (S' 0) Rm w Wb:=by
  refine⟨hblank.tape,hblank.drawn,hblank.os,hblank.output,hblank.size.trans hsz.symm,fun b h1 h2=>?_,fun b h1 h2=>?_,fun b h1=>?_,fun b o h1=>?_⟩
  ·rw[hWb,hblank.same b h1 h2]
   cases (mask (S' 0) Rm w).heap[b]? with
   | none=>rfl
   | some o=>show some o=some (if Rm b then _ else _);rw[if_neg h2]
  ·rw[hbl b h2];exact hv0.lent b (hRn b h2) h2
  ·rw[hWb,hblank.pois b h1]
   rw[hS'0] at h1
   show some (if Rm b then _ else _)=_
   rw[if_neg h1.2]
  ·rw[hWb] at h1
   obtain⟨o',e,rfl⟩:=Option.map_eq_some_iff.1 h1
   split
   ·rename_i hb
    obtain⟨cs,tt,fr,hh,e1,e2,e3⟩:=hV0 b hb
    rw[e2]
    trivial
   ·exact hblank.plain b o' e
 obtain⟨r1,hr1⟩:=(hg1 _ hbl).dh
 obtain⟨r2,hr2⟩:=hch.dh
 let V':Nat→World:=fun j=>if j=0 then Wb else V 0
 have hV'0:V' 0=Wb:=if_pos rfl
 have hV'J:∀j,j≠0→V' j=V 0:=fun j hj=>if_neg hj
 let rk':Nat→Rk:=fun j=>if j=0 then r1 else r2
 have hrun:=runT_crowd_spawn (P:=P) (sl:=sl) (i:=0) hi (hst true w)
 rw[ofEvents_none] at hrun
 have hops:∀u:Trace,t++((#[]:Trace).push {g:=0,fn:=g.frame.fn,pos:=g.frame.place,act:=.go gs.size} |>.push {g:=gs.size,fn:=child.frame.fn,pos:=g.frame.place,act:=.start})=t++#[({g:=0,fn:=g.frame.fn,pos:=g.frame.place,act:=.go gs.size} : MemOp),{g:=gs.size,fn:=child.frame.fn,pos:=g.frame.place,act:=.start}]:=fun _=>rfl
 have hdJ:Deaf t J=0:=h.above J (by rw[hJe];exact Nat.le_refl _)
 have hkn:∀i,Knows t 0 i→Knows (t++#[({g:=0,fn:=g.frame.fn,pos:=g.frame.place,act:=.go J} : MemOp),{g:=J,fn:=child.frame.fn,pos:=g.frame.place,act:=.start}]) J i:=fun i hk=>Go.ConcN.fork_knows (x:={g:=0,fn:=g.frame.fn,pos:=g.frame.place,act:=.go J}) (y:={g:=J,fn:=child.frame.fn,pos:=g.frame.place,act:=.start}) ⟨rfl,rfl⟩ ⟨rfl,rfl⟩ hI.2.1.d0 hdJ hk
 have hdf:∀j,Deaf (t++#[({g:=0,fn:=g.frame.fn,pos:=g.frame.place,act:=.go J} : MemOp),{g:=J,fn:=child.frame.fn,pos:=g.frame.place,act:=.start}]) j=Deaf t j:=fun j=>Deaf_quiet fun op hop d=>by
  simp at hop
  rcases hop with rfl|rfl<;>rfl
 have hgs:∀(j:Nat) (y:Goroutine),((gs.setIfInBounds 0 g1).push child)[j]? = some y→(j=0∧y=g1)∨(j=J∧y=child)∨(j≠0∧j≠J∧gs[j]? = some y):=fun j y hy=>by
  rw[Array.getElem?_push] at hy
  by_cases e:j=(gs.setIfInBounds 0 g1).size
  ·rw[if_pos e] at hy
   exact .inr (.inl ⟨by rw[e,hJe];simp,(Oi hy).symm⟩)
  ·rw[if_neg e] at hy
   rcases jI hy with ⟨e0,_,rfl⟩|⟨e0,hx⟩
   ·exact .inl ⟨e0,rfl⟩
   ·exact .inr (.inr ⟨e0,by rw[hJe];simpa using e,hx⟩)
 refine⟨(gs.setIfInBounds 0 g1).push child,S',V',rk',_,hrun,hJ,?_⟩
 rw[hops t,←hJe]
 have hJ0:J≠0:=by rw[hJe];exact hJ
 refine⟨fun j y hj hy=>?_,fun j hj=>?_,fun a b ha hb hne x hx=>?_,fun b hb=>?_,fun j y hj hy=>?_,fun j hj=>?_,?_,fun j hj=>?_,fun j hj=>?_,h.base⟩
 ·rcases hgs j y hy with ⟨rfl,rfl⟩|⟨rfl,rfl⟩|⟨e0,eJ,_⟩
  ·rw[hV'0]
   show GsR P _ (if (0:Nat)=0 then r1 else r2) _ _
   rw[if_pos rfl]
   exact dz (fun a b hab=>⟨fun _=>hab,fun e=>absurd rfl e⟩) hr1
  ·rw[hV'J _ hJ0]
   show GsR P _ (if j=0 then r1 else r2) _ _
   rw[if_neg hJ0]
   exact dz (fun a b hab=>⟨fun e=>absurd e hJ0,fun _=>hab⟩) hr2
  ·rcases hj with x|x
   ·exact absurd x e0
   ·exact absurd x eJ
 ·by_cases e:j=0
  ·subst e;rw[hV'0];exact hvb
  ·rw[hV'J j e,hS'J j e];exact hv0
 ·by_cases hr:Rm x
  ·exact .inr (.inr hr)
  rcases ha with ha|ha
  ·rw[ha,hS'0];exact .inl ⟨hx,hr⟩
  ·rcases hb with hb|hb
   ·rw[hb,hS'0];exact .inr (.inl ⟨hx,hr⟩)
   ·exact absurd (ha.trans hb.symm) hne
 ·have hc0:=h.common b hb
  refine⟨fun j hj=>?_,hc0.2⟩
  rcases hc0.1 0 (.inl rfl) with hs0|hr
  ·left
   by_cases e:j=0
   ·rw[e,hS'0];exact⟨x1 b hs0,fun hr=>hRn b hr hs0⟩
   ·rw[hS'J j e];exact hs0
  ·exact .inr hr
 ·rcases hgs j y hy with ⟨rfl,rfl⟩|⟨rfl,rfl⟩|⟨e0,eJ,hx⟩
  ·exact absurd (.inl rfl) hj
  ·exact absurd (.inr rfl) hj
  ·rw[hdf]
   exact h.old j y (fun z=>by rcases z with z|z<;>exact e0 z) hx
 ·rw[hdf]
  exact h.above j (by have:gs.size+1≤j:=(by simpa using hj);omega)
 ·refine⟨?_,⟨(hdf 0).trans hI.2.1.d0,(hdf J).trans hdJ,kN hI.2.1.norel fun op hop a=>?_,fun kk a hk hb=>?_,fun kk a hk b hb=>?_⟩,fun j hj=>?_,?_⟩
  ·exact hI.1.fork (act':=fun i=>i=0∨i=J) (S':=S') (R':=fun _=>Rm) (j:=J) (.inl rfl) hI.2.1.d0 hdJ ⟨rfl,rfl⟩ ⟨rfl,rfl⟩ (fun b hb=>by rw[hS'J J hJ0];exact hb) (fun b hb=>.inr hb) (fun i hi b hb=>by
    have hi0:i=0:=by rcases hi with e|e<;>exact e
    rw[hi0] at hb ⊢
    rw[hS'0];exact⟨x1 b hb,fun hr=>hRn b hr hb⟩) (fun i hi b hb=>.inr hb) (fun i hi=>hi.imp .inl id)
  ·simp at hop
   rcases hop with rfl|rfl<;>exact fun e=>by cases e
  ·obtain⟨x,hx,hxa⟩:=touch_of hk
   rcases getElem?_append_cases hx with ⟨_,hx'⟩|⟨_,hxu⟩
   ·obtain⟨y1,y2⟩:=hI.2.1.wg kk a (by rw[touchAt_of hx'];exact hxa) hb
    exact⟨fun e=>⟨(y1 e).1.app _,hkn _ (y1 e).1⟩,fun e=>(y2 e).app _⟩
   ·simp at hxu
    rcases hxu with rfl|rfl<;>cases hxa
  ·obtain⟨x,hx,hxa⟩:=touch_of hk
   rcases getElem?_append_cases hx with ⟨hlt,hx'⟩|⟨_,hxu⟩
   ·rcases hI.2.1.all kk a (by rw[touchAt_of hx'];exact hxa) b hb with y|y|y
    ·exact .inl (y.app _)
    ·exact y.elim
    ·exact .inr (.inr (y.app hlt))
   ·simp at hxu
    rcases hxu with rfl|rfl<;>cases hxa
  ·by_cases e:j=0
   ·rw[e,hS'0];exact⟨x5,fun hr=>(hRS _ hr).2.2 rfl⟩
   ·rw[hS'J j e];exact hI.2.2.1 0 (.inl rfl)
  ·refine⟨fun i b hi hb=>?_,fun b hb=>⟨?_,?_⟩,⟨?_,?_⟩,fun b hb hb2=>?_,fun b hb _=>?_,x6,x5⟩
   ·by_cases e:i=0
    ·rw[e,hS'0] at hb;exact hb.1
    ·rw[hS'J i e] at hb;exact x1 b hb
   ·rw[hS'0];exact⟨x1 b (x2 b hb),fun hr=>(hRS b hr).1 hb⟩
   ·rw[hS'J J hJ0];exact x2 b hb
   ·rw[hS'0];exact⟨x1 c x3,fun hr=>(hRS c hr).2.1 rfl⟩
   ·rw[hS'J J hJ0];exact x3
   ·rw[hS'J J hJ0] at hb2;exact x4 b hb2
   ·rw[hS'J J hJ0] at hb;exact x4 b hb
 ·rcases hj with ⟨-,e⟩|⟨-,-,e⟩<;>cases e
 ·show j<((gs.setIfInBounds 0 g1).push child).size
  rw[Array.size_push,Array.size_setIfInBounds]
  rcases hj with e|e
  ·omega
  ·have:j=J:=e
   omega
set_option maxHeartbeats 4000000 in
theorem a_runs(hRS:∀b,Rm b→¬Sst b∧b≠c∧b≠Wg)(hSh:Sjn Wg Sst Wg)(HE:∀{J:Nat},J≠0→∀{gs w sl t S V rk q},bx (cw0 P ty J Wg c Cl D hC hCr hD hcw Sst Rm zs w0 vs false false s r tm) gs w t S V rk q→Ends P Φ (crowd gs w sl) t) :
  ∀a b:Nat,∀k n,k.dh=a→n=b→∀{gs w sl t S V rk q},bx (cwA P ty Wg c Fa hFa (GoQ P c Rm Cl D vs) hQ hQr Sst Rm zs w0 s r tm k n) gs w t S V rk q→Ends P Φ (crowd gs w sl) t:=by
 intro a
 induction a using Nat.strongRecOn with|ind a iha=>?_
 intro b
 induction b using Nat.strongRecOn with|ind b ihb=>?_
 intro k n ea eb gs w sl t S V rk q h
 have IH:∀k' n',(k'.dh<k.dh∨(k'=k∧n'<n))→∀{gs w sl t S V rk q},bx (cwA P ty Wg c Fa hFa (GoQ P c Rm Cl D vs) hQ hQr Sst Rm zs w0 s r tm k' n') gs w t S V rk q→Ends P Φ (crowd gs w sl) t:=by
  intro k' n' hl gs w sl t S V rk q hc
  rcases hl with hl|⟨rfl,hl⟩
  ·exact iha _ (by rw[←ea];exact hl) _ k' n' rfl rfl hc
  ·exact ihb _ (by rw[←eb];exact hl) k' n' ea rfl hc
 refine jO (fun hc=>cwA_live hc) ?_ h
 intro gs w sl t S V rk q i g hcr hact hi hrun hl hQ2
 have hi0:i=0:=by rcases hact with e|e<;>exact e
 subst hi0
 obtain⟨hm,hW⟩:=hQ2 rfl
 have hz:=wgA hcr
 have hlive:=dp hz
 have hI:ivP 0 Wg (Sjn Wg Sst) Rm k.deaf k.deaf (fun _ _=>False) (ExA Wg c w0.heap.size Sst) S w.heap.size t:=hcr.trace
 have hlt:=hI.2.2.2.2.2.2.2.2
 have go:∀{k' n' g' w' es},k'≠.ow→k≠.ow→stepG P true g w=.go g' w' es→Aside Wg w w'→QA P ty Wg Fa (GoQ P c Rm Cl D vs) k' n' g' (V 0)→w'.heap[Wg]? = some (wgBlock ty k'.val 0)→
   ivP 0 Wg (Sjn Wg Sst) Rm k'.deaf k'.deaf (fun _ _=>False) (ExA Wg c w0.heap.size Sst) S w.heap.size (t++MemOp.ofEvents 0 g.frame.fn g.frame.place es)→(k'.dh<k.dh∨(k'=k∧n'<n))→
   ∃m'' ops,runT P (crowd gs w sl) 0=(.next m'',ops)∧(Ends P Φ m'' (t++ops)∨∃gs',m''=crowd gs' w sl∧gs'.size=gs.size∧cN gs'<cN gs∧bx (cwA P ty Wg c Fa hFa (GoQ P c Rm Cl D vs) hQ hQr Sst Rm zs w0 s r tm k n) gs' w (t++ops) S V rk q):=by
  intro k' n' g' w' es hko hko2 a1 a2 a3 a4 a5 a6
  obtain⟨gs',V',rk',b1,b2⟩:=alone_go (sl:=sl) (k':=k') (n':=n') (rr:=.leaf) hcr hi a1 a2 ⟨a3,fun _=>hW hko2⟩ (fun _=>rfl) a4 a5
  exact⟨_,_,b1,.inl (IH k' n' a6 b2)⟩
 have idle:∀{g' n'},k≠.ow→stepG P true g w=.go g' w #[]→QA P ty Wg Fa (GoQ P c Rm Cl D vs) k n' g' (V 0)→n'<n→∃m'' ops,runT P (crowd gs w sl) 0=(.next m'',ops)∧(Ends P Φ m'' (t++ops)∨∃gs',m''=crowd gs' w sl∧gs'.size=gs.size∧cN gs'<cN gs∧bx (cwA P ty Wg c Fa hFa (GoQ P c Rm Cl D vs) hQ hQr Sst Rm zs w0 s r tm k n) gs' w (t++ops) S V rk q):=
  fun a0 a1 a2 a3=>go a0 a0 a1 (Aside.refl _ _) a2 hz (by rw[ofEvents_none,Array.append_empty];exact hI) (.inr ⟨rfl,a3⟩)
 -- on to the own walk
 have own:∀{g' es},k≠.ow→Fa g'→stepG P true g w=.go g' w es→k.val=KK→4<k.dh→
   ivP 0 Wg (Sjn Wg Sst) Rm 0 0 (fun _ _=>False) (ExA Wg c w0.heap.size Sst) S w.heap.size (t++MemOp.ofEvents 0 g.frame.fn g.frame.place es)→
   ∃m'' ops,runT P (crowd gs w sl) 0=(.next m'',ops)∧(Ends P Φ m'' (t++ops)∨∃gs',m''=crowd gs' w sl∧gs'.size=gs.size∧cN gs'<cN gs∧bx (cwA P ty Wg c Fa hFa (GoQ P c Rm Cl D vs) hQ hQr Sst Rm zs w0 s r tm k n) gs' w (t++ops) S V rk q):=by
  intro g' es hko hF a1 hv hr a5
  obtain⟨r1,hr1⟩:=(hW hko g' hF).dh
  obtain⟨gs',V',rk',b1,b2⟩:=alone_go (sl:=sl) (k':=.ow) (n':=0) (rr:=r1) hcr hi a1 (Aside.refl _ _) (dz (fun a b hab=>⟨hab,fun e=>absurd rfl e⟩) hr1) (fun e=>absurd rfl e) (by rw[hz,hv];rfl) a5
  exact⟨_,_,b1,.inl (IH .ow 0 (.inl hr) b2)⟩
 have op1:∀{dm':Nat} (e:Event),((∀b:Addr,MemAct.ofEvent e≠.mark (.release b))∧(MemAct.ofEvent e).low w.heap.size∧((MemAct.ofEvent e).touch? = none∨(∃a wr,MemAct.ofEvent e=.access ⟨.cell a,wr,true⟩∧a.block=Wg)∨∃a:Addr,(MemAct.ofEvent e=.mark (.read a)∨MemAct.ofEvent e=.mark (.write a))∧a.block=Wg))→
   deafStep 0 k.deaf ({g:=0,fn:=g.frame.fn,pos:=g.frame.place,act:=.ofEvent e} : MemOp)=dm'→ivP 0 Wg (Sjn Wg Sst) Rm dm' dm' (fun _ _=>False) (ExA Wg c w0.heap.size Sst) S w.heap.size (t++MemOp.ofEvents 0 g.frame.fn g.frame.place #[e]):=by
  intro dm' e he hd
  rw[ofEvents_one]
  have:=iv0 (J:=0) (op:={g:=0,fn:=g.frame.fn,pos:=g.frame.place,act:=.ofEvent e}) (dw:=0) (KJ':=fun _ _=>False) (by rw[if_pos rfl];exact hI) hSh rfl he (fun _ (x:False)=>x.elim)
  rw[if_pos rfl,hd] at this
  exact this
 have hcell:∀(a:Addr) (x:Bool),a.block=Wg→((∀b:Addr,MemAct.ofEvent ⟨.cell a,x,true⟩≠.mark (.release b))∧(MemAct.ofEvent ⟨.cell a,x,true⟩).low w.heap.size∧((MemAct.ofEvent ⟨.cell a,x,true⟩).touch? = none∨(∃a' wr,MemAct.ofEvent ⟨.cell a,x,true⟩=.access ⟨.cell a',wr,true⟩∧a'.block=Wg)∨∃a':Addr,(MemAct.ofEvent ⟨.cell a,x,true⟩=.mark (.read a')∨MemAct.ofEvent ⟨.cell a,x,true⟩=.mark (.write a'))∧a'.block=Wg)):=fun a x e=>
  ⟨by simp[MemAct.ofEvent],by show a.block<_;rw[e];exact hlt,.inr (.inl ⟨a,x,rfl,e⟩)⟩
 cases k with
 | kd=>
  rcases bS hm hlive with ⟨-,g',hst,n',hN⟩|⟨n',g',rfl,-,hst,hN⟩
  ·exact go (k':=.add) (n':=n') (by decide) (by decide) (hst w) (Aside.refl _ _) hN hz (op1 _ ⟨by simp[mk,MemAct.ofEvent],dy (Wg:=Wg) (.inl rfl),.inl rfl⟩ (by simp[deafStep,mk,MemAct.ofEvent,AK.deaf])) (.inl (by decide))
  ·exact idle (by decide) hst hN (by omega)
 | add=>
  rcases bS hm hlive with ⟨-,g',hst,n',hN⟩|⟨n',g',rfl,-,hst,hN⟩
  ·have hset:(w.setCell (stA Wg) (.int .u64 KK)).heap[Wg]? = some (wgBlock ty KK 0):=Go.ConcR.WgAt.setSt hz _
   refine go (k':=.sr) (n':=n') (by decide) (by decide) (hst w hz) (aside_setCell w (stA Wg) _) hN hset ?_ (.inl (by decide))
   rw[jE]
   have b1:=op1 (dm':=1) (rd (stA Wg)) (hcell _ _ rfl) (by simp[deafStep,rd,MemAct.ofEvent,AK.deaf])
   rw[ofEvents_one] at b1
   have b2:=iv0 (J:=0) (op:={g:=0,fn:=g.frame.fn,pos:=g.frame.place,act:=.ofEvent (wr (stA Wg))}) (dw:=0) (KJ':=fun _ _=>False) (by rw[if_pos rfl];exact b1) hSh rfl (hcell (stA Wg) true rfl) (fun _ (x:False)=>x.elim)
   rw[if_pos rfl] at b2
   exact b2
  ·exact idle (by decide) hst hN (by omega)
 | sr=>
  rcases bS hm hlive with ⟨-,g',hst,n',hN⟩|⟨n',g',rfl,-,hst,hN⟩
  ·exact go (k':=.ke) (n':=n') (by decide) (by decide) (hst w) (Aside.refl _ _) hN hz (op1 _ ⟨by simp[mk,MemAct.ofEvent],dy (Wg:=Wg) (.inr (.inr ⟨hlt,by simp⟩)),.inr (.inr ⟨smA Wg,.inl rfl,rfl⟩)⟩ (by simp[deafStep,mk,MemAct.ofEvent,AK.deaf])) (.inl (by decide))
  ·exact idle (by decide) hst hN (by omega)
 | ke=>
  rcases bS hm hlive with ⟨-,g',hst,n',hN⟩|⟨n',g',rfl,-,hst,hN⟩
  ·have b1:=op1 (dm':=0) (mk .enable) ⟨by simp[mk,MemAct.ofEvent],dy (Wg:=Wg) (.inr (.inl rfl)),.inl rfl⟩ (by simp[deafStep,mk,MemAct.ofEvent,AK.deaf])
   by_cases hF:Fa g'
   ·exact own (by decide) hF (hst w) rfl (by decide) b1
   ·exact go (k':=.bk) (n':=n') (by decide) (by decide) (hst w) (Aside.refl _ _) ⟨hN,hF⟩ hz b1 (.inl (by decide))
  ·exact idle (by decide) hst hN (by omega)
 | bk=>
  obtain⟨hm,hnf⟩:=hm
  rcases bS hm hlive with hF|⟨n',g',rfl,-,hst,hN⟩
  ·exact absurd hF hnf
  ·have b1:ivP 0 Wg (Sjn Wg Sst) Rm 0 0 (fun _ _=>False) (ExA Wg c w0.heap.size Sst) S w.heap.size (t++MemOp.ofEvents 0 g.frame.fn g.frame.place #[]):=by rw[ofEvents_none,Array.append_empty];exact hI
   by_cases hF:Fa g'
   ·exact own (by decide) hF hst rfl (by decide) b1
   ·exact idle (by decide) hst ⟨hN,hF⟩ (by omega)
 | ow=>
  obtain⟨gs',S',V',rk',ops,b1,b0,b2⟩:=fork_go (Cl:=Cl) (D:=D) (sl:=sl) (hC:=hC) (hCr:=hCr) (hD:=hD) (hcw:=hcw) hRS hcr hi hm
  exact⟨_,_,b1,.inl (HE b0 b2)⟩
end
section
variable {P:Program}{ty:TypeId}{Wg c:Nat}{Rm:Nat→Prop}{lent0:Nat→Option Obj}{F:World→Prop}{Fin Fa:Goroutine→Prop}{vs:List Value}{s r:Nat}{tm:Bool}{g:Goroutine}{W:World}{Φ:Value→World→Prop}{w00:World}{S0:Nat→Prop}
theorem phase(hF:∀{W W1},F W→Rv W W1→F W1)(hFin:∀g,Fin g→g.status=.running)(hFa:∀g,Fa g→g.status=.running)(hcw:c≠Wg)(hWg:W.heap[Wg]? = some (wgBlock ty 0 0))(hc:W.heap[c]? = some (.chan 0 #[] false s r tm))(hnew:w00.heap.size≤Wg∧w00.heap.size≤c)
  (hRm:∀b,Rm b→W.heap[b]? = lent0 b∧b≠Wg∧b≠c∧∃cs tt fr,lent0 b=some (.cells cs tt fr)∧cs.size≠0) (hAdd:AddW P true ty Wg Fa g) (hGo:∀g,Fa g→∀W1,Rv W W1→∀Wm,CutW c Wg Rm W1 Wm→Gs P (GoQ P c Rm (ClQ P ty Wg c Fin) (DnQ P ty Wg F) vs) g Wm) (HB:Behind P Φ w00 S0 Fin F W Rm lent0 c Wg):Er P Φ w00 S0 g W:=by
 intro W1 r1 hsz S w gs sl t hv hS h0 hB
 obtain⟨n,hAdd⟩:=hAdd
 have hWg1:=r1.heap _ _ hWg
 have hc1:=r1.heap _ _ hc
 have nS:∀{b:Nat} {o:Obj},W1.heap[b]? = some o→o≠poison→¬S b:=fun ho hne hb=>hne (by
  have:=hv.pois _ hb
  rw[this] at ho
  exact(Oi ho).symm)
 have hSWg:¬S Wg:=nS hWg1 (by simp[poison,wgBlock])
 have hSc:¬S c:=nS hc1 (by simp[poison])
 have hwg:w.heap[Wg]? = some (wgBlock ty 0 0):=by rw[hv.same Wg hSWg (fun x=>x)];exact hWg1
 have hwc:w.heap[c]? = some (.chan 0 #[] false s r tm):=by rw[hv.same c hSc (fun x=>x)];exact hc1
 have hlow:∀b,S b→b<w.heap.size:=fun b hb=>by rw[hv.size];exact hv.low (.inl hb)
 let S1:Nat→Prop:=fun b=>S b∨b=c∨b=Wg
 have hR1:∀b,Rm b→¬S b∧∃cs tt fr,w.heap[b]? = some (.cells cs tt fr)∧W1.heap[b]? = some (.cells cs tt fr)∧w.heap[b]? = lent0 b:=fun b hb=>by
  obtain⟨a1,a2,a3,cs,tt,fr,a4,a5⟩:=hRm b hb
  have h1:W1.heap[b]? = some (.cells cs tt fr):=r1.heap _ _ (a1.trans a4)
  have hn:¬S b:=nS h1 (by
   intro e
   injection e with e1
   rw[e1] at a5
   exact a5 rfl)
  have h2:w.heap[b]? = some (.cells cs tt fr):=by rw[hv.same b hn (fun x=>x)];exact h1
  exact⟨hn,cs,tt,fr,h2,h1,h2.trans a4.symm⟩
 have hm:=iZ (S:=S1) (R:=Rm) (w:=w) (fun b o hb ho=>hv.plain b o (by rw[←hv.same b (fun x=>hb (.inl x)) (fun x=>x)];exact ho)) (fun b hb=>by
  rcases hb with hb|rfl|rfl
  ·exact hlow b hb
  ·exact(Array.getElem?_eq_some_iff.1 hwc).1
  ·exact(Array.getElem?_eq_some_iff.1 hwg).1) (fun b _ hb=>by obtain⟨-,cs,tt,fr,e,-⟩:=hR1 b hb;exact⟨cs,tt,fr,e⟩)
 have hRS1:∀b,Rm b→¬S1 b:=fun b hb=>by
  obtain⟨a1,a2,a3,-⟩:=hRm b hb
  rintro(x|x|x)
  ·exact(hR1 b hb).1 x
  ·exact a3 x
  ·exact a2 x
 have hcut:CutW c Wg Rm W1 (mask S1 Rm w):=by
  refine⟨hm.os.symm.trans hv.os,hm.tape.symm.trans hv.tape,hm.output.symm.trans hv.output,hm.size.symm.trans hv.size,fun b h1 h2 h3=>?_,fun b hb=>?_,hm.pois c (.inr (.inl rfl)),hm.pois Wg (.inr (.inr rfl))⟩
  ·by_cases hb:S b
   ·rw[hm.pois b (.inl hb),hv.pois b hb]
   ·rw[←hm.same b (by rintro(x|x|x);exact hb x;exact h1 x;exact h2 x) h3,hv.same b hb (fun x=>x)]
  ·obtain⟨n1,cs,tt,fr,e1,e2,-⟩:=hR1 b hb
   have:=hm.lent b (hRS1 b hb) hb
   rw[e1] at this
   rw[e2]
   exact this
 have hDl:∀{g W W1},DnQ P ty Wg F g W→Rv W W1→DnQ P ty Wg F g W1:=fun h r=>⟨h.1,hF h.2 r⟩
 have hCl:∀{g W W1},ClQ P ty Wg c Fin g W→Rv W W1→ClQ P ty Wg c Fin g W1:=fun⟨a,b,g',d,e,f⟩ r=>⟨a,b,g',d,e,f.later (fun x _=>x) r⟩
 have hCr:∀g W,ClQ P ty Wg c Fin g W→g.status=.running:=fun g W h=>h.1
 have hQl:∀{g W W1},GoQ P c Rm (ClQ P ty Wg c Fin) (DnQ P ty Wg F) vs g W→Rv W W1→GoQ P c Rm (ClQ P ty Wg c Fin) (DnQ P ty Wg F) vs g W1:=fun⟨a,g1,ch,b,d0,d,e⟩ r=>⟨a,g1,ch,b,fun x hx=>by obtain⟨o,ho⟩:=d0 x hx;exact⟨o,r.heap _ _ ho⟩,fun W0 hW0=>d W0 fun x hx=>by obtain⟨o,ho⟩:=d0 x hx;rw[hW0 x hx,r.heap _ _ ho,ho],e.later (fun x y=>gg (D:=DnQ P ty Wg F) (fun u v=>hDl u v) x y) r⟩
 have hQr:∀g W,GoQ P c Rm (ClQ P ty Wg c Fin) (DnQ P ty Wg F) vs g W→g.status=.running:=fun g W h=>h.1
 obtain⟨⟨q,hL⟩,⟨Shun,hP,hSh⟩,hqt⟩:=hB
 have hcrew:bx (cwA P ty Wg c Fa hFa (GoQ P c Rm (ClQ P ty Wg c Fin) (DnQ P ty Wg F) vs) hQl hQr S Rm (fun b=>w.heap[b]?) W s r tm .kd n) gs w t (fun _=>S1) (fun _=>mask S1 Rm w) (fun _=>.leaf) q:=by
  refine⟨fun j y hj hy e=>?_,fun j hj=>hm,fun a b ha hb hne=>?_,fun b hb=>⟨fun j hj=>?_,?_⟩,fun j y hj hy=>hL.old j y (Nat.pos_of_ne_zero fun e=>hj (.inl e)) hy,hL.above,?_,fun j hj=>rfl,fun j hj=>?_,⟨hv.os.trans r1.os,hv.tape.trans r1.tape,hv.output.trans r1.output⟩⟩
  ·subst e
   rw[h0] at hy
   obtain rfl:=Oi hy
   exact⟨hAdd,fun _ g' hg'=>hGo g' hg' W1 r1 _ hcut⟩
  ·exact absurd ((by rcases ha with x|x<;>exact x:a=0).trans (by rcases hb with x|x<;>exact x:b=0).symm) hne
  ·rcases hb with x|x|x|x
   ·exact .inl (.inr (.inl x))
   ·exact .inl (.inr (.inr x))
   ·exact .inl (.inl x)
   ·exact .inr x
  ·show _=zA ty Wg c (fun b=>w.heap[b]?) s r tm .kd b
   unfold zA
   by_cases e:b=Wg
   ·rw[if_pos e,e];exact hwg
   ·rw[if_neg e]
    by_cases e2:b=c
    ·rw[if_pos e2,e2];exact hwc
    ·rw[if_neg e2]
  ·refine⟨?_,⟨hP.hears,hP.hears,hqt,fun kk a hk hb=>?_,fun kk a hk b hb=>?_⟩,fun j hj=>.inr (.inr rfl),?_⟩
   ·exact past_kn hP (fun l hl=>by obtain⟨a,h1,h2⟩:=hSh l hl;exact⟨a,h1,.inl h2⟩) (fun i hi=>by rcases hi with x|x<;>exact x)
   ·have hmem:a.loc.isMemory=true:=by cases e:a.loc<;>rw[e] at hb<;>first|rfl|cases hb
    have hkn:Knows t 0 kk:=(hP.known kk a hk hmem).resolve_right fun⟨x,_⟩=>by
     obtain⟨ad,h1,h2⟩:=hSh _ x
     rw[blk_of h1 hb] at h2
     exact hSWg h2
    exact⟨fun _=>⟨hkn,hkn⟩,fun _=>hkn⟩
   ·have hmem:a.loc.isMemory=true:=by cases e:a.loc<;>rw[e] at hb<;>first|rfl|cases hb
    rcases hP.known kk a hk hmem with x|⟨x,x2⟩
    ·exact .inl x
    ·obtain⟨ad,h1,h2⟩:=hSh _ x
     refine .inr (.inr ⟨x2,⟨ad,h1⟩,.inl (by rw[←blk_of h1 hb];exact h2),fun g hg hne hcn=>hP.over kk g hg hne hcn⟩)
   ·refine⟨fun b hb=>?_,fun b hb=>.inl hb,.inr (.inl rfl),fun b hb=>hb,by rw[hv.size];exact r1.size,(Array.getElem?_eq_some_iff.1 hwg).1⟩
    rcases hb with hb|rfl|rfl
    ·exact hlow b hb
    ·exact(Array.getElem?_eq_some_iff.1 hwc).1
    ·exact(Array.getElem?_eq_some_iff.1 hwg).1
  ·have:j=0:=by rcases hj with x|x<;>exact x
   rw[this]
   exact(Array.getElem?_eq_some_iff.1 h0).1
 refine a_runs (Cl:=ClQ P ty Wg c Fin) (D:=DnQ P ty Wg F) (hC:=hCl) (hCr:=hCr) (hD:=hDl) (hcw:=hcw) (fun b hb=>⟨(hR1 b hb).1,(hRm b hb).2.2.1,(hRm b hb).2.1⟩) (.inr rfl) (fun {J} hJ=>?_) _ _ .kd n rfl rfl hcrew
 intro gs w' sl t S2 V rk q hcr
 exact e0_runs (S0:=S0) hJ hF hFin (fun b (hb:S b)=>⟨fun(e:b=Wg)=>hSWg (by rw[←e];exact hb),fun(e:b=c)=>hSc (by rw[←e];exact hb)⟩) hS.1 hS.2 hnew.1 (fun b hb=>by
  obtain⟨a1,a2,a3,cs,tt,fr,a4,-⟩:=hRm b hb
  obtain⟨n1,_,_,_,_,_,e3⟩:=hR1 b hb
  exact⟨e3,n1,a2,a3,cs,tt,fr,a4⟩) HB _ vs false false s r tm rfl (by simp) hcr
end
end Go.Proofs.YtgigkennhdolpaaGreatDoor
namespace Go.Proofs.YtgigkennhdolpaaGreatDoor
open Go.Conc
def wpE(E:Goroutine→World→Prop)(b:Frame)(cs:List Frame)(c:Code)(Q:Exit→Act→World→Prop)(a:Act)(W:World):Prop:=
 ∀k:List Item,(∀e a' w',Q e a' w'→okEx e∧ArrJ E b k cs e a' w')→E (G (b.at a (.code c::k)) cs) W
section
variable {P:Program}{co:Bool}{E:Goroutine→World→Prop}{b:Frame}{cs:List Frame}{Q Q':Exit→Act→World→Prop}{a:Act}{W:World}
def fK(f:FuncId):Frame:={ (default:Frame) with fn:=f,kind:=.normal}
theorem oP{f:FuncId}{fn:Func}{c:Code}{args:Array Value}{R:Ending→World→Prop}(hE:Closed P co E)(hf:P.funcs[f]? = some fn)(hb:fn.body=some c)
  (hc:∀e w' fr,R e w'→fr.fn=f→fr.leaving P w' e→E (G fr cs) w')
  (h:wpE E (fK f) cs c (bodyPostJ P co fn R) {tmps:=args++Array.replicate (fn.ntmps-args.size) undef,defers:=[]} W):E (G (Frame.enter P f args .normal) cs) W:=by
 have henter:Frame.enter P f args .normal=(fK f).at {tmps:=args++Array.replicate (fn.ntmps-args.size) undef,defers:=[]} [.code c]:=by
  simp[Frame.enter,Frame.at,hf,hb,fK]
 rw[henter]
 have hret:∀a' w' todo,(a'.defers=[]∧∃v,(results fn a'.tmps).run P w'=.ok v w'∧R (.returned v) w')→E (G { (fK f).at a' todo with mode:=.returning} cs) w':=by
  rintro a' w' todo ⟨d,v,hv,hR⟩
  exact hc (.returned v) w' _ hR rfl ⟨rfl,d,rfl,fn,hf,hv⟩
 refine h [] fun e a' w' hq=>?_
 cases e with
 | normal=>exact⟨trivial,hE.cw rfl (fun _ _=>stepG_end) (hret a' w' [] hq)⟩
 | ret=>exact⟨trivial,fun todo=>hret a' w' todo hq⟩
 | exit _=>exact hq.elim
 | goto _=>exact hq.elim
 | panic _=>exact hq.elim
 | outgrown=>exact hq.elim
end
end Go.Proofs.YtgigkennhdolpaaGreatDoor
namespace Go.Proofs.YtgigkennhdolpaaGreatDoor
open Go.Conc Go.RowKit
def Sls(n:Nat)(a:Act)(l:List (Nat×Value)):Prop:=a.tmps.size=n∧∀t v,look l t=some v→a.tmps[t]? = some v
section
variable {n:Nat}{a:Act}{l:List (Nat×Value)}{t d:Nat}{v:Value}
theorem av{α:Type}{l:List (Nat×α)}{t s:Nat}{v:α} : look ((t,v)::l) s=if t=s then some v else look l s:=by
 show (match Nat.beq t s with|true=>some v|false=>look l s)=_
 by_cases e:t=s
 ·subst e
  rw[if_pos rfl,Nat.beq_refl]
 ·rw[if_neg e]
  have:Nat.beq t s=false:=by
   cases h:Nat.beq t s with
   | false=>rfl
   | true=>exact absurd (Nb h) e
  rw[this]
theorem Sls.put(h:Sls n a l)(ht:t<n)(v:Value):Sls n (a.put (some t) v) ((t,v)::l):=by
 refine⟨by show (a.tmps.setIfInBounds t v).size=n;rw[Array.size_setIfInBounds];exact h.1,fun s u hs=>?_⟩
 rw[av] at hs
 by_cases e:t=s
 ·rw[if_pos e] at hs
  obtain rfl:=Oi hs
  subst e
  exact fG (by rw[h.1];exact ht)
 ·rw[if_neg e] at hs
  rw[cn e]
  exact h.2 s u hs
theorem Sls.ev(h:Sls n a l)(e:look l t=some v):a.eval (.tmp t)=v:=bg (h.2 t v e)
theorem Sls.sub{l':List (Nat×Value)}(h:Sls n a l)(hl:∀t v,look l' t=some v→look l t=some v):Sls n a l':=⟨h.1,fun t v e=>h.2 t v (hl t v e)⟩
end
def lz(P:Program)(a:Act)(o:Oper)(W:World)(v:Value):Prop:=NS P (execOp a.eval o)∧∀W1,Rv W W1→(execOp a.eval o).run P W1=.ok (.value v) W1
section
variable {P:Program}{co:Bool}{E:Goroutine→World→Prop}{b:Frame}{a:Act}{k:List Item}{cs:List Frame}{W:World}{ops:Array Oper}{i:Nat}{rest:List Nat}{o:Oper}{v:Value}
theorem e_seq(hE:Closed P co E){x y:Code}(h:E (G (b.at a (.code x::.code y::k)) cs) W):E (G (b.at a (.code (.seq x y)::k)) cs) W:=hE.cw rfl (fun _ _=>stepG_seq) h
theorem e_skip(hE:Closed P co E)(h:E (G (b.at a k) cs) W):E (G (b.at a (.code .skip::k)) cs) W:=hE.cw rfl (fun _ _=>stepG_skip) h
theorem e_block(hE:Closed P co E){id:Nat}{x:Code}(h:E (G (b.at a (.code x::.inBlock id::k)) cs) W):E (G (b.at a (.code (.block id x)::k)) cs) W:=hE.cw rfl (fun _ _=>stepG_block) h
theorem jd(hE:Closed P co E){id:Nat}(h:E (G (b.at a k) cs) W):E (G (b.at a (.inBlock id::k)) cs) W:=hE.cw rfl (fun _ _=>stepG_inBlock) h
theorem e_loop(hE:Closed P co E){x:Code}(h:E (G (b.at a (.code x::.inLoop x::k)) cs) W):E (G (b.at a (.code (.loop x)::k)) cs) W:=hE.cw rfl (fun _ _=>stepG_loop) h
theorem e_inLoop(hE:Closed P co E){x:Code}(h:E (G (b.at a (.code x::.inLoop x::k)) cs) W):E (G (b.at a (.inLoop x::k)) cs) W:=hE.cw rfl (fun _ _=>stepG_inLoop) h
theorem e_exit(hE:Closed P co E){id:Nat}{k':List Item}(hx:exitTo id k=some k')(h:E (G (b.at a k') cs) W):E (G (b.at a (.code (.exit id)::k)) cs) W:=hE.cw rfl (fun _ _=>stepG_exit hx) h
theorem e_cond(hE:Closed P co E){c:Operand}{x y:Code}{t:Bool}(hc:a.eval c=.bool t)(h:E (G (b.at a (.code (if t then x else y)::k)) cs) W):E (G (b.at a (.code (.cond c x y)::k)) cs) W:=hE.cw rfl (fun _ _=>stepG_cond hc) h
theorem e_region(hE:Closed P co E){id:Nat}(h:E (G (b.at a (.inRegion ops (List.range ops.size)::k)) cs) W):E (G (b.at a (.code (.region id ops false)::k)) cs) W:=hE.cw rfl (fun _ _=>stepG_region) h
theorem ao(hE:Closed P co E)(h:E (G (b.at a k) cs) W):E (G (b.at a (.inRegion ops []::k)) cs) W:=hE.cw rfl (fun _ _=>stepG_region_end) h
theorem e_end(hE:Closed P co E)(h:E (G {b.at a [] with mode:=.returning} cs) W):E (G (b.at a []) cs) W:=hE.cw rfl (fun _ _=>stepG_end) h
theorem e_val(hE:Closed P co E)(hk:b.kind≠.early)(ho:ops[i]? = some o)(hw:Region.wanted o (yielded ops a.tmps)=true)(hr:lz P a o W v)(h:E (G (b.at (a.put o.dst v) (.inRegion ops rest::k)) cs) W):E (G (b.at a (.inRegion ops (i::rest)::k)) cs) W:=
 op_step hE hk ho hw (K:=fun a' w'=>a'=a.put o.dst v∧Rv W w') ⟨hr.1,fun W1 r=>bK (hr.2 W1 r) ⟨rfl,r⟩⟩ fun a' w' ⟨e,r⟩=>by rw[e];exact hE.mono h r
theorem e_mem(hE:Closed P co E)(hk:b.kind≠.early)(ho:ops[i]? = some o)(hw:Region.wanted o (yielded ops a.tmps)=true)(hn:NS P (execOp a.eval o))(h:∀W1,Rv W W1→∃v W2,(execOp a.eval o).run P W1=.ok (.value v) W2∧E (G (b.at (a.put o.dst v) (.inRegion ops rest::k)) cs) W2):E (G (b.at a (.inRegion ops (i::rest)::k)) cs) W:=
 op_step hE hk ho hw (K:=fun a' w'=>E (G (b.at a' (.inRegion ops rest::k)) cs) w') ⟨hn,fun W1 r=>by obtain⟨v,W2,h1,h2⟩:=h W1 r;exact dX h1 h2⟩ fun a' w' h=>h
theorem e_none(hE:Closed P co E)(hk:b.kind≠.early)(ho:ops[i]? = some o)(hw:Region.wanted o (yielded ops a.tmps)=true)(hn:NS P (execOp a.eval o))(h:∀W1,Rv W W1→∃W2,(execOp a.eval o).run P W1=.ok .skip W2∧E (G (b.at (a.put o.dst undef) (.inRegion ops rest::k)) cs) W2):E (G (b.at a (.inRegion ops (i::rest)::k)) cs) W:=
 op_step hE hk ho hw (K:=fun a' w'=>E (G (b.at a' (.inRegion ops rest::k)) cs) w') ⟨hn,fun W1 r=>by
  obtain⟨W2,h1,h2⟩:=h W1 r
  unfold dC
  rw[h1]
  exact h2⟩ fun a' w' h=>h
theorem e_enter(hE:Closed P co E)(hk:b.kind≠.early)(ho:ops[i]? = some o)(hw:Region.wanted o (yielded ops a.tmps)=true){f:FuncId}{args:Array Value}(hn:NS P (execOp a.eval o))(hr:∀W1,Rv W W1→(execOp a.eval o).run P W1=.ok (.enter f args) W1)
  (h:E (G (Frame.enter P f args .normal) (b.at a (.inRegion ops (i::rest)::k)::cs)) W):E (G (b.at a (.inRegion ops (i::rest)::k)) cs) W:=by
 refine hE.step rfl fun W1 r1=>⟨G (Frame.enter P f args .normal) (b.at a (.inRegion ops (i::rest)::k)::cs),W1,fun main S R w hv=>?_,hE.mono h r1⟩
 obtain⟨u,k1,k2,kk,k3⟩:=eh #[] hn hv (hr W1 r1)
 refine⟨u,_,stepG_enter ho hw hk k1,k2,kk,fun e he=>?_⟩
 rcases k3 e (mem_listed he) with q|q
 ·simp at q
 ·exact q
variable {dst:Option Tmp}{ty:TypeId}{pos:String}{after:Array Edge}{guard:Option (Nat×Bool)}
theorem iV{x:Operand}(e:a.eval x=v):lz P a ⟨dst,.move x,ty,pos,after,guard⟩ W v:=⟨trivial,fun W1 _=>by rw[←e];exact ex_move⟩
theorem runs_assign{x:Operand}(e:a.eval x=v):lz P a ⟨dst,.assign x,ty,pos,after,guard⟩ W v:=⟨trivial,fun W1 _=>by rw[←e];exact ex_assign⟩
theorem j8{op:BinOp}{t yt:TypeId}{x y:Operand}{kx ky:IntKind}{m n:Int}(ex:a.eval x=.int kx m)(ey:a.eval y=.int ky n)(hv:∀w,(binOp op t (.int kx m) (.int ky n)).run P w=.ok v w):lz P a ⟨dst,.binOp op t x y yt,ty,pos,after,guard⟩ W v:=
 ⟨ab (ab (mg _ _ _ _ _ _) fun _=>by rw[ex,ey];exact nG _ _ _ _ _ _) fun _=>trivial,fun W1 _=>gC (by rw[ex,ey];exact ja) (by rw[ex,ey];exact hv W1)⟩
theorem cell_at{w:World}{b off:Nat}{c:Array Value}{e:TypeId}{fz:Nat×Nat}(hb:w.heap[b]? = some (.cells c e fz))(hv:c[off]? = some v):w.cell? ⟨b,off,none⟩=some v:=by
 unfold World.cell?
 simp only[hb]
 exact hv
theorem ia{t:TypeId}{x:Operand}{d:TypeDesc}{b off:Nat}{c:Array Value}{e:TypeId}{fz:Nat×Nat}(hp:a.eval x=.pointer (some ⟨b,off,none⟩))(hd:P.underlying t=some d)(h1:∀fs,d≠.struct fs)(h2:∀n e,d≠.array n e)(hb:W.heap[b]? = some (.cells c e fz))(hv:c[off]? = some v):lz P a ⟨dst,.load t x,ty,pos,after,guard⟩ W v:=
 ⟨ab (nF _ _) fun _=>trivial,fun W1 r=>ex_load1 hp hd h1 h2 (cell_at (r.heap _ _ hb) hv)⟩
theorem runs_loadN{t:TypeId}{x:Operand}{d:TypeDesc}{i:TypeInfo}{b off:Nat}{c:Array Value}{e:TypeId}{fz:Nat×Nat}{cs:List Value}(hp:a.eval x=.pointer (some ⟨b,off,none⟩))(hi:P.info? t=some i)(hd:P.underlying t=some d)(h1:(∃fs,d=.struct fs)∨∃n e,d=.array n e)(hs:i.size=cs.length)(hb:W.heap[b]? = some (.cells c e fz))
  (hv:∀j v,cs[j]? = some v→c[off+j]? = some v):lz P a ⟨dst,.load t x,ty,pos,after,guard⟩ W (.agg cs.toArray):=
 ⟨ab (nF _ _) fun _=>trivial,fun W1 r=>ex_loadN hp hi hd h1 hs fun j v hj=>by rw[bO];exact cell_at (r.heap _ _ hb) (hv j v hj)⟩
theorem jx{s:TypeId}{x:Operand}{k:Nat}{fs:Array Field}{f:Field}{i:TypeInfo}{p:Addr}(hp:a.eval x=.pointer (some p))(hd:P.underlying s=some (.struct fs))(hf:fs[k]? = some f)(hi:P.info? f.type=some i)(hs:i.size≠0):lz P a ⟨dst,.fieldAddr s x k,ty,pos,after,guard⟩ W (.pointer (some (p.add f.offset))):=
 ⟨ab (by rw[hp];exact ns_fieldAt hd hf hi hs) fun _=>trivial,fun W1 _=>ex_field hp hd hf hi hs⟩
theorem jy{x:Operand}{k:Nat}{vs:Array Value}(hx:a.eval x=.tuple vs)(hv:vs[k]? = some v):lz P a ⟨dst,.extract x k,ty,pos,after,guard⟩ W v:=⟨ab (ns_extract _ _) fun _=>trivial,fun W1 _=>ex_extract hx hv⟩
theorem jw{t e:TypeId}{x i:Operand}{k:Int}{len cap:Nat}{b:Addr}{inf:TypeInfo}{kk:IntKind}(hx:a.eval x=.slice (some b) len cap)(hi:a.eval i=.int kk k)(hk:0≤k∧k<len)(hd:P.underlying t=some (.slice e))(hinf:P.info? e=some inf) :
  lz P a ⟨dst,.indexAddr t x i,ty,pos,after,guard⟩ W (.pointer (some (b.add (k.toNat*inf.size)))):=⟨ab (ns_indexAt _ _ _) fun _=>trivial,fun W1 _=>ij hx hi hk hd hinf⟩
theorem runs_makeFunc{fn:Fn}{first captured:Array Operand} : lz P a ⟨dst,.makeFunc fn first captured,ty,pos,after,guard⟩ W (.func fn (first.map a.eval) (captured.map a.eval)):=⟨trivial,fun W1 _=>oO⟩
theorem runs_len{c:Call}{x:Operand}{t:TypeId}{p:Option Addr}{len cap:Nat}(hc:c.callee=.builtin .len)(ha:c.args=#[x])(ht:c.argTypes=#[t])(hx:a.eval x=.slice p len cap)(hd:∃e,P.underlying t=some (.slice e)):lz P a ⟨dst,.call c,ty,pos,after,guard⟩ W (goInt len):=by
 obtain⟨e,hd⟩:=hd
 refine⟨?_,fun W1 _=>?_⟩
 ·simp only[execOp,resolve,hc]
  exact ab (m:=Builtin.len_ _ _ _) (ns_len _ _ _) fun _=>trivial
 ·have hl:(Builtin.len_ #[t] ty #[.slice p len cap]).run P W1=.ok (goInt len) W1:=jB rfl hd
  simp only[execOp,resolve,hc,ha,ht,invoke,builtin,Sem.run_bind,Sem.run_pure,Result.andThen_ok,List.map_toArray,List.map_cons,List.map_nil,hx,hl]
end
end Go.Proofs.YtgigkennhdolpaaGreatDoor
