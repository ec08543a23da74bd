/- step: first, body. Company, 5: a goroutine's own walk up to its next stop, as a tree: for the phase in which several goroutines walk. Company, 6: what another goroutine does, as one sees it: more foreign blocks, other draws. Company, 7: ranks of walks, which do not hang on what others do; many walks at once come to their stops. Company, 4: goroutine 0 beside others that only leave: what it does in a view leads the machine to a good end. Company, 8: a crew: several goroutines walk, each in its view; others leave. Whatever the schedule, one of the walkers comes to take a step at its stop. -/
import Derived.Test.YtgigkennhdolpaaGreatDoorM21
import Derived.Test.YtgigkennhdolpaaGreatDoorM3
import Derived.Conc.Beside
namespace Go.Proofs.YtgigkennhdolpaaGreatDoor
open Go.RowKit
set_option maxRecDepth 8000
set_option maxHeartbeats 2000000
theorem Fc1_walk:∀a,aK ((fun a=>[∃q,a.2=.rp [.v (.int .u8 q)] 0]) a)→aX (C:=cx) [] [] 0 aw Tryz.f194 ((aV gz rdX).enc a) fun v H _=>ai ((fun a=>.v (.bool (decide (a.1.kind=rkI a.2)))) a) H v:=by
 intro⟨c,x⟩ hx
 obtain⟨q,hx⟩:∃q,x=.rp [.v (.int .u8 q)] 0:=hx
 subst hx
 exact rfl
noncomputable def conFc1:Con cx:=ah 194 Tryz.call194 (aV gz rdX) _ _ (fun _=>aw) [] (fun _=>rfl) follows Tryz.func194 (by kernel_rfl) Fc1_walk
def ixcIxS(l:Cms)(q:Int):Cut:=⟨Nat,fun k=>k≤l.n∧ixN (fun i=>decide ((l.c i).kind=q)) 0 l.n=ixN (fun i=>decide ((l.c i).kind=q)) k (l.n-k),
 fun k=>⟨[sl 0 l.sv,sl 1 (.f (.func 194) [] [.rp [.v (.int .u8 q)] 0]),sl 7 (i64 l.n),sl 8 (i64 k)],[],0,0,[],[]⟩,fun k=>l.n-k⟩
theorem IxS_walk:∀a,aK ((fun a=>[(a.1.n:Int)≤cJ,∃q,a.2=(.f (.func 194) [] [.rp [.v (.int .u8 q)] 0])]) a)→aX (C:=cx) [conFc1] [] 0 ⟨[],[],[2],0⟩ Tryz.f93 ((aV gE rdX).enc a) fun v H _=>ai ((fun a=>.v (.int .i64 (ixI (fun i=>decide ((a.1.c i).kind=kxI a.2)) a.1.n))) a) H v:=by
 intro⟨l,x⟩ ⟨hm,hx⟩
 obtain⟨q,hx⟩:∃q,x=(.f (.func 194) [] [.rp [.v (.int .u8 q)] 0]):=hx
 subst hx
 replace hm:(l.n:Int)≤9223372036854775807:=hm
 refine Exists.intro (ixcIxS l q) ?_
 refine Ai ?_ ?_
 ·refine⟨(0:Nat),[],[],trivial,⟨Nat.zero_le _,rfl⟩,?_⟩
  repeat' (first|(refine Ai ?_ ?_)|(intro _)|exact rfl)
 refine fun(k:Nat) (hk:k≤l.n∧ixN (fun i=>decide ((l.c i).kind=q)) 0 l.n=ixN (fun i=>decide ((l.c i).kind=q)) k (l.n-k))=>?_
 obtain⟨k1,k2⟩:=hk
 refine Ai (fun hb=>?_) (fun hb=>?_)
 ·have hb:(k:Int)<l.n:=Od hb
  have e:=ixN_step (g:=(fun i=>decide ((l.c i).kind=q))) (k:=k) (n:=l.n) (by omega)
  refine Ai ⟨by omega,by omega⟩ ?_
  refine Ai ⟨q,rfl⟩ ?_
  refine Ai (fun hc=>?_) (fun hc=>?_)
  ·have hc:(decide ((l.c k).kind=q))=true:=hc
   simp only[hc] at e
   exact kT (g:=(fun i=>decide ((l.c i).kind=q))) (n:=l.n) (k2.trans e) (by omega)
  ·have hc:(decide ((l.c k).kind=q))=false:=hc
   simp only[hc] at e
   refine Ai (by unfold I64;omega:I64 ((k:Int)+1)) ?_
   refine⟨k+1,[],[],(by show l.n-(k+1)<l.n-k;omega),⟨by omega,by rw[k2,e]⟩,?_⟩
   repeat' (first|(refine Ai ?_ ?_)|(intro _)|exact rfl)
 ·have hb:¬(k:Int)<l.n:=of_decide_eq_false hb
  refine km (g:=(fun i=>decide ((l.c i).kind=q))) (n:=l.n) ?_
  rw[k2,show l.n-k=0 by omega]
  show k=l.n
  omega
noncomputable def conIxS:Con cx:=ah 93 Tryz.call93 (aV gE rdX) _ _ (fun _=>⟨[],[],[2],0⟩) [] (fun _=>rfl) follows Tryz.func93 (by kernel_rfl) IxS_walk
def selB(b1 b2 b3:Bool):Int→Bool
 | .ofNat 1=>b1
 | .ofNat 3=>b3
 | _=>b2
def outF(b:Bool)(c:aJ):SV:=match b with|true=>.rp c.cells 0|false=>.v (.pointer none)
section
variable (b1 b2 b3:Bool)
theorem SFirst_walk:∀a:Ent×Int,aK [(a.1.l.n:Int)≤cJ,selB b1 b2 b3 a.2=(bm a.1.l a.2).2]→aX (C:=cx) [conIxS] [] 0 aw Tryz.f132 ((aV eG (rdI .u8)).enc a) fun v H _=>ai (outF (selB b1 b2 b3 a.2) (bm a.1.l a.2).1) H v:=by
 intro⟨e,q⟩ ⟨hm,hs⟩
 replace hs:selB b1 b2 b3 q=(bm e.l q).2:=hs
 rw[hs]
 refine Ai ⟨fun _ _=>trivial,hm,⟨q,rfl⟩⟩ ?_
 replace hm:(e.l.n:Int)≤9223372036854775807:=hm
 have hle:=ixN_le (g:=fun i=>decide ((e.l.c i).kind=q)) (r:=e.l.n) (k:=0)
 by_cases h:ixN (fun i=>decide ((e.l.c i).kind=q)) 0 e.l.n<e.l.n
 ·have ei:ixI (fun i=>decide ((e.l.c i).kind=q)) e.l.n=(ixN (fun i=>decide ((e.l.c i).kind=q)) 0 e.l.n:Nat):=kT rfl h
  have ec:bm e.l q=(e.l.c (ixN (fun i=>decide ((e.l.c i).kind=q)) 0 e.l.n),true):=by unfold bm;rw[decide_eq_true h]
  simp only[ec]
  refine Ai (fun hc=>?_) (fun hc=>?_)
  ·have hc:decide (ixI (fun i=>decide ((e.l.c i).kind=q)) e.l.n<0)=true:=hc
   rw[ei] at hc
   have:=Od hc
   omega
  ·refine Ai (show 0≤ixI (fun i=>decide ((e.l.c i).kind=q)) e.l.n∧ixI (fun i=>decide ((e.l.c i).kind=q)) e.l.n<(e.l.n:Nat) by rw[ei];omega) ?_
   have et:(ixI (fun i=>decide ((e.l.c i).kind=q)) e.l.n).toNat=ixN (fun i=>decide ((e.l.c i).kind=q)) 0 e.l.n:=by rw[ei];rfl
   repeat' (first|(refine Ai ?_ ?_)|(intro _))
   all_goals first|exact rfl|exact congrArg (fun i=>(e.l.c i).kind) et.symm|exact congrArg (fun i=>(e.l.c i).v0) et.symm|exact congrArg (fun i=>(e.l.c i).v1) et.symm|exact congrArg (fun i=>(e.l.c i).v2) et.symm|exact congrArg (fun i=>(e.l.c i).v3) et.symm
 ·have ei:ixI (fun i=>decide ((e.l.c i).kind=q)) e.l.n = -1:=km (by omega)
  have ec:bm e.l q=(aJ.no,false):=by unfold bm;rw[decide_eq_false h]
  simp only[ec]
  refine Ai (fun hc=>?_) (fun hc=>?_)
  ·repeat' (first|(refine Ai ?_ ?_)|(intro _)|exact rfl)
  ·have hc:decide (ixI (fun i=>decide ((e.l.c i).kind=q)) e.l.n<0)=false:=hc
   rw[ei] at hc
   exact absurd hc (by decide)
noncomputable def conSFirst:Con cx:=ah 132 Tryz.call132 (aV eG (rdI .u8)) (fun a=>[(a.1.l.n:Int)≤cJ,selB b1 b2 b3 a.2=(bm a.1.l a.2).2]) (fun a=>outF (selB b1 b2 b3 a.2) (bm a.1.l a.2).1) (fun _=>aw) [] (fun _=>rfl) follows Tryz.func132 (by kernel_rfl) (SFirst_walk b1 b2 b3)
end
set_option maxRecDepth 100000 in
def walkConD{α:Type}{Fs:List (FnI cx)}{d:Nat}(Γ:α→List (Con cx))(f:FuncId)(en:∀(args:Array Value) (w:World),(callFunc f args).run cx.P w=.ok (.enter f args) w)(R:Rds α)(pre:α→List Prop)(out:α→SV)(h:α→How)(fl:List Nat)(hfl:∀a,(h a).fl=fl)(hm:cx.P.follows .mixedOrders=true){fn:Func}
  (hf:cx.P.funcs[f]? = some fn) (hB:fp fl fn=true) (he:∀a,aK (pre a)→aX (Γ a) Fs d (h a) fn (R.enc a) fun v H _=>ai (out a) H v):Con cx:=
 mkCon f en (dG hf hB) R pre out fun a ze W vs ha hG hz hd=>m8 (h a) hm hf (by rw[hfl a];exact hB) hG hz hd (he a ha)
def Body.no:Body:=⟨0,0,0,0,0,0,0,false,false⟩
def oL(e:Ent):Bool:=decide ((bm e.l 3).1.v3=1)||!(bm e.l 2).2
def jh(e:Ent):Body:=match oL e with
 | true=>⟨e.iD,(bm e.l 1).1.v0,(bm e.l 1).1.v1,0,0,(bm e.l 3).1.v0,(bm e.l 3).1.v1,decide ((bm e.l 3).1.v2=1),true⟩
 | false=>⟨e.iD,(bm e.l 1).1.v0,(bm e.l 1).1.v1,(bm e.l 2).1.v0,(bm e.l 2).1.v1,(bm e.l 3).1.v0,(bm e.l 3).1.v1,decide ((bm e.l 3).1.v2=1),false⟩
def bJ(e:Ent):Body×Bool:=match (bm e.l 1).2&&(bm e.l 3).2 with
 | true=>(jh e,true)
 | false=>(Body.no,false)
theorem Body_walk:∀a:Ent,aK [(a.l.n:Int)≤cJ]→aX (C:=cx) [conSFirst (bm a.l 1).2 (bm a.l 2).2 (bm a.l 3).2] [] 0 ⟨[1002],[],[],0⟩ Tryz.f128 ((bM eG).enc a) fun v H _=>ai (.tup [(bJ a).1.sv,.v (.bool (bJ a).2)]) H v:=by
 intro e hm
 have h1:(bm e.l 1).2=(bm e.l 1).2:=rfl
 have h2:(bm e.l 2).2=(bm e.l 2).2:=rfl
 have h3:(bm e.l 3).2=(bm e.l 3).2:=rfl
 generalize hb1:(bm e.l 1).2=b1 at h1 ⊢
 generalize hb2:(bm e.l 2).2=b2 at h2 ⊢
 generalize hb3:(bm e.l 3).2=b3 at h3 ⊢
 clear h1 h2 h3
 cases b1<;>cases b2<;>cases b3
 ·have hF:bJ e=(Body.no,false):=by unfold bJ;rw[hb1,hb3];rfl
  simp only[hF]
  refine Ai ⟨fun _ _=>trivial,hm,hb1.symm⟩ ?_
  refine Ai ⟨fun _ _=>trivial,hm,hb3.symm⟩ ?_
  refine Ai ⟨fun _ _=>trivial,hm,hb2.symm⟩ ?_
  repeat' (first|(refine Ai ?_ ?_)|(intro _)|exact rfl)
 ·have hF:bJ e=(Body.no,false):=by unfold bJ;rw[hb1,hb3];rfl
  simp only[hF]
  refine Ai ⟨fun _ _=>trivial,hm,hb1.symm⟩ ?_
  refine Ai ⟨fun _ _=>trivial,hm,hb3.symm⟩ ?_
  refine Ai ⟨fun _ _=>trivial,hm,hb2.symm⟩ ?_
  repeat' (first|(refine Ai ?_ ?_)|(intro _)|exact rfl)
 ·have hF:bJ e=(Body.no,false):=by unfold bJ;rw[hb1,hb3];rfl
  simp only[hF]
  refine Ai ⟨fun _ _=>trivial,hm,hb1.symm⟩ ?_
  refine Ai ⟨fun _ _=>trivial,hm,hb3.symm⟩ ?_
  refine Ai ⟨fun _ _=>trivial,hm,hb2.symm⟩ ?_
  repeat' (first|(refine Ai ?_ ?_)|(intro _)|exact rfl)
 ·have hF:bJ e=(Body.no,false):=by unfold bJ;rw[hb1,hb3];rfl
  simp only[hF]
  refine Ai ⟨fun _ _=>trivial,hm,hb1.symm⟩ ?_
  refine Ai ⟨fun _ _=>trivial,hm,hb3.symm⟩ ?_
  refine Ai ⟨fun _ _=>trivial,hm,hb2.symm⟩ ?_
  repeat' (first|(refine Ai ?_ ?_)|(intro _)|exact rfl)
 ·have hF:bJ e=(Body.no,false):=by unfold bJ;rw[hb1,hb3];rfl
  simp only[hF]
  refine Ai ⟨fun _ _=>trivial,hm,hb1.symm⟩ ?_
  refine Ai ⟨fun _ _=>trivial,hm,hb3.symm⟩ ?_
  refine Ai ⟨fun _ _=>trivial,hm,hb2.symm⟩ ?_
  repeat' (first|(refine Ai ?_ ?_)|(intro _)|exact rfl)
 ·have hF:bJ e=(jh e,true):=by unfold bJ;rw[hb1,hb3];rfl
  simp only[hF]
  refine Ai ⟨fun _ _=>trivial,hm,hb1.symm⟩ ?_
  refine Ai ⟨fun _ _=>trivial,hm,hb3.symm⟩ ?_
  refine Ai ⟨fun _ _=>trivial,hm,hb2.symm⟩ ?_
  refine Ai (fun hc=>?_) (fun hc=>?_)
  ·have hc:(!(decide ((bm e.l 3).1.v3=1)||true))=true:=hc
   simp at hc
  ·have hV:jh e=⟨e.iD,(bm e.l 1).1.v0,(bm e.l 1).1.v1,0,0,(bm e.l 3).1.v0,(bm e.l 3).1.v1,decide ((bm e.l 3).1.v2=1),true⟩:=by unfold jh oL;rw[hb2,Bool.not_false,Bool.or_true]
   simp only[hV]
   repeat' (first|(refine Ai ?_ ?_)|(intro _)|exact rfl)
   all_goals exact(Bool.or_true _).symm
 ·have hF:bJ e=(Body.no,false):=by unfold bJ;rw[hb1,hb3];rfl
  simp only[hF]
  refine Ai ⟨fun _ _=>trivial,hm,hb1.symm⟩ ?_
  refine Ai ⟨fun _ _=>trivial,hm,hb3.symm⟩ ?_
  refine Ai ⟨fun _ _=>trivial,hm,hb2.symm⟩ ?_
  repeat' (first|(refine Ai ?_ ?_)|(intro _)|exact rfl)
 ·have hF:bJ e=(jh e,true):=by unfold bJ;rw[hb1,hb3];rfl
  simp only[hF]
  refine Ai ⟨fun _ _=>trivial,hm,hb1.symm⟩ ?_
  refine Ai ⟨fun _ _=>trivial,hm,hb3.symm⟩ ?_
  refine Ai ⟨fun _ _=>trivial,hm,hb2.symm⟩ ?_
  refine Ai (fun hc=>?_) (fun hc=>?_)
  ·have hc:(!(decide ((bm e.l 3).1.v3=1)||false))=true:=hc
   have hd:decide ((bm e.l 3).1.v3=1)=false:=by simpa using hc
   have hV:jh e=⟨e.iD,(bm e.l 1).1.v0,(bm e.l 1).1.v1,(bm e.l 2).1.v0,(bm e.l 2).1.v1,(bm e.l 3).1.v0,(bm e.l 3).1.v1,decide ((bm e.l 3).1.v2=1),false⟩:=by unfold jh oL;rw[hb2,Bool.not_true,hd];rfl
   simp only[hV]
   repeat' (first|(refine Ai ?_ ?_)|(intro _)|exact rfl)
   all_goals (refine Eq.trans (b:=decide ((bm e.l 3).1.v3=1)||false) ?_ rfl;rw[hd];rfl)
  ·have hc:(!(decide ((bm e.l 3).1.v3=1)||false))=false:=hc
   have hd:decide ((bm e.l 3).1.v3=1)=true:=by simpa using hc
   have hV:jh e=⟨e.iD,(bm e.l 1).1.v0,(bm e.l 1).1.v1,0,0,(bm e.l 3).1.v0,(bm e.l 3).1.v1,decide ((bm e.l 3).1.v2=1),true⟩:=by unfold jh oL;rw[hb2,Bool.not_true,hd];rfl
   simp only[hV]
   repeat' (first|(refine Ai ?_ ?_)|(intro _)|exact rfl)
   all_goals (refine Eq.trans (b:=decide ((bm e.l 3).1.v3=1)||false) ?_ rfl;rw[hd];rfl)
noncomputable def conBody:Con cx:=walkConD (Fs:=[]) (d:=0) (fun a:Ent=>[conSFirst (bm a.l 1).2 (bm a.l 2).2 (bm a.l 3).2]) 128 Tryz.call128 (bM eG) (fun a=>[(a.l.n:Int)≤cJ]) (fun a=>.tup [(bJ a).1.sv,.v (.bool (bJ a).2)]) (fun _=>⟨[1002],[],[],0⟩) [1002] (fun _=>rfl) follows Tryz.func128 (by kernel_rfl) Body_walk
end Go.Proofs.YtgigkennhdolpaaGreatDoor
namespace Go.Proofs.YtgigkennhdolpaaGreatDoor
open Go.Conc
inductive Gs (P:Program) (Q:Goroutine→World→Prop):Goroutine→World→Prop where
 | stop {g W} (h:Q g W):Gs P Q g W
 | step {g W} (hs:g.status=.running) (G':World→Goroutine) (W':World→World) (h:∀W1,Rv W W1→StepV P g W1 (G' W1) (W' W1)) (k:∀W1,Rv W W1→Gs P Q (G' W1) (W' W1)):Gs P Q g W
section
variable {P:Program}{Q Q':Goroutine→World→Prop}{g:Goroutine}{W W1:World}
theorem Gs.go(hs:g.status=.running)(h:∀W1,Rv W W1→∃g' W',StepV P g W1 g' W'∧Gs P Q g' W'):Gs P Q g W:=by
 classical
 refine .step hs (fun W1=>if r:Rv W W1 then(h W1 r).choose else g) (fun W1=>if r:Rv W W1 then(h W1 r).choose_spec.choose else W1) (fun W1 r=>?_) fun W1 r=>?_
 ·simp only[dif_pos r];exact(h W1 r).choose_spec.choose_spec.1
 ·simp only[dif_pos r];exact(h W1 r).choose_spec.choose_spec.2
theorem Gs.later(hQ:∀{g W W1},Q g W→Rv W W1→Q g W1)(h:Gs P Q g W)(r:Rv W W1):Gs P Q g W1:=by
 cases h with
 | stop h=>exact .stop (hQ h r)
 | step hs G' W' h k=>exact .step hs G' W' (fun W2 r2=>h W2 (r.trans r2)) fun W2 r2=>k W2 (r.trans r2)
theorem cR(hQ:∀{g W W1},Q g W→Rv W W1→Q g W1):Closed P false (Gs P Q) where
 par:=fun e=>by cases e
 mono:=fun h r=>h.later hQ r
 step:=fun hs h=>.go hs h
theorem Gs.mono(h:Gs P Q g W)(k:∀g W,Q g W→Q' g W):Gs P Q' g W:=by
 induction h with
 | stop h=>exact .stop (k _ _ h)
 | step hs G' W' h _ ih=>exact .step hs G' W' h ih
end
end Go.Proofs.YtgigkennhdolpaaGreatDoor
namespace Go.Proofs.YtgigkennhdolpaaGreatDoor
open Go.Conc
def World.behind(W w':World):World:={w' with heap:=W.heap++(Array.replicate (w'.heap.size-W.heap.size) (Obj.cells #[] 0 (0,0)))}
section
variable {S R:Nat→Prop}{w w' W:World}
theorem View.other(h:View S R w W)(hs:w.heap.size≤w'.heap.size)(hb:∀b:Nat,b<w.heap.size→¬S b→w'.heap[b]? = w.heap[b]?)(ho:w'.os=w.os)(ht:w'.tape=w.tape)(hp:w'.output=w.output)(hR:∀b,R b→b<w.heap.size) :
  ∃W',Rv W W'∧View (fun b=>S b∨(w.heap.size≤b∧b<w'.heap.size)) R w' W':=by
 have hz:=h.size
 refine⟨World.behind W w',⟨?_,?_,?_,fun b o e=>?_⟩,⟨rfl,rfl,rfl,rfl,?_,fun b h1 h2=>?_,fun b h1 h2=>?_,fun b h1=>?_,fun b o e=>?_⟩⟩
 ·show w'.os=W.os
  rw[ho,h.os]
 ·show w'.tape=W.tape
  rw[ht,h.tape]
 ·show w'.output=W.output
  rw[hp,h.output]
 ·have hl:=(Array.getElem?_eq_some_iff.1 e).1
  show (W.heap++_)[b]? = some o
  rw[Array.getElem?_append_left hl]
  exact e
 ·show w'.heap.size=(W.heap++_).size
  simp
  omega
 ·show w'.heap[b]? = (W.heap++_)[b]?
  have n1:¬S b:=fun x=>h1 (.inl x)
  by_cases hl:b<w.heap.size
  ·rw[Array.getElem?_append_left (by omega),←h.same b n1 h2]
   exact hb b hl n1
  ·have hl':¬b<w'.heap.size:=fun x=>h1 (.inr ⟨by omega,x⟩)
   rw[Array.getElem?_eq_none (by omega),Array.getElem?_eq_none (by simp;omega)]
 ·have n1:¬S b:=fun x=>h1 (.inl x)
  have hl:=hR b h2
  obtain⟨cs,t,fr,hi,q1,q2,q3⟩:=h.lent b n1 h2
  refine⟨cs,t,fr,hi,(hb b hl n1).trans q1,?_,q3⟩
  show (W.heap++_)[b]? = _
  rw[Array.getElem?_append_left (by omega)]
  exact q2
 ·show (W.heap++_)[b]? = _
  rcases h1 with h1|⟨h1,h2⟩
  ·have hl:=h.low (.inl h1)
   rw[Array.getElem?_append_left hl]
   exact h.pois b h1
  ·rw[Array.getElem?_append_right (by omega),Array.getElem?_replicate]
   rw[if_pos (by omega)]
 ·have e:(W.heap++Array.replicate (w'.heap.size-W.heap.size) (Obj.cells #[] 0 (0,0)))[b]? = some o:=e
  by_cases hl:b<W.heap.size
  ·rw[Array.getElem?_append_left hl] at e
   exact h.plain b o e
  ·rw[Array.getElem?_append_right (by omega),Array.getElem?_replicate] at e
   split at e
   ·obtain rfl:=Oi e
    trivial
   ·cases e
theorem View.beside{S2 R2:Nat→Prop}(h:View S R w W)(k:dS S2 R2 w w')(hd:∀b:Nat,b<w.heap.size→S b∨S2 b∨R2 b)(hR:∀b,R b→b<w.heap.size) :
  ∃W',Rv W W'∧View (fun b=>S b∨(w.heap.size≤b∧b<w'.heap.size)) R w' W':=
 h.other k.size (fun b hl hn=>k.same b ((hd b hl).resolve_left hn)) k.os k.tape k.output hR
end
end Go.Proofs.YtgigkennhdolpaaGreatDoor
namespace Go.Proofs.YtgigkennhdolpaaGreatDoor
open Go.Conc
inductive Rk where
 | leaf
 | mk (f:World→Rk)
instance:Inhabited Rk:=⟨.leaf⟩
def Rk.Sub(p:Rk):Rk→Prop
 | .leaf=>False
 | .mk f=>∃W,p=f W
theorem Rk.wf:∀r:Rk,Acc Rk.Sub r
 | .leaf=>⟨_,fun _ h=>h.elim⟩
 | .mk f=>⟨_,fun _ ⟨W,e⟩=>e▸Rk.wf (f W)⟩
def Low(n:Nat)(p q:Nat→Rk):Prop:=∃i,i<n∧(p i).Sub (q i)∧∀j,j≠i→p j=q j
theorem low_acc:∀(n:Nat) (q:Nat→Rk),Acc (Low n) q:=by
 intro n
 induction n with
 | zero=>exact fun q=>⟨_,fun p ⟨i,h,_⟩=>absurd h (Nat.not_lt_zero i)⟩
 | succ n ih=>
  have key:∀r:Rk,∀q:Nat→Rk,q n=r→Acc (Low (n+1)) q:=by
   intro r
   induction Rk.wf r with
   | intro r _ ihr=>
    intro q
    induction ih q with
    | intro q _ ihq=>
     intro hq
     refine⟨_,fun p ⟨i,hi,h1,h2⟩=>?_⟩
     by_cases hn:i=n
     ·subst hn
      exact ihr (p i) (hq▸h1) p rfl
     ·exact ihq p ⟨i,by omega,h1,h2⟩ ((h2 n (Ne.symm hn)).trans hq)
  exact fun q=>key (q n) q rfl
def GsR(P:Program)(Q:Goroutine→World→Prop):Rk→Goroutine→World→Prop
 | .leaf,g,W=>Q g W
 | .mk f,g,W=>g.status=.running∧∀W1,Rv W W1→∃g' W',StepV P g W1 g' W'∧GsR P Q (f W1) g' W'
section
variable {P:Program}{Q:Goroutine→World→Prop}{g:Goroutine}{W W1:World}{r:Rk}
theorem Gs.dh(h:Gs P Q g W):∃r,GsR P Q r g W:=by
 classical
 induction h with
 | stop h=>exact⟨.leaf,h⟩
 | @step g W hs G' W' h k ih=>
  refine⟨.mk fun W1=>if r:Rv W W1 then(ih W1 r).choose else .leaf,hs,fun W1 r=>⟨G' W1,W' W1,h W1 r,?_⟩⟩
  simp only[dif_pos r]
  exact(ih W1 r).choose_spec
theorem GsR.later(hQ:∀{g W W1},Q g W→Rv W W1→Q g W1)(h:GsR P Q r g W)(k:Rv W W1):GsR P Q r g W1:=by
 cases r with
 | leaf=>exact hQ h k
 | mk f=>exact⟨h.1,fun W2 h2=>h.2 W2 (k.trans h2)⟩
end
end Go.Proofs.YtgigkennhdolpaaGreatDoor
namespace Go.Proofs.YtgigkennhdolpaaGreatDoor
open Go.Conc
open Go.ConcN (sumTo upd sumTo_upd upd_ne upd_same)
theorem runN_next{P:Program}{m m':Machine}{M:Nat}(h:step P m=.next m'):runN P (M+1) m=runN P M m':=by
 show (match step P m with|.next m=>runN P M m|e=>e)=_
 rw[h]
theorem Ends.next{P:Program}{Φ:Value→World→Prop}{m m':Machine}{t:Trace}{ops:Array MemOp}(hs:stepT P m=(.next m',ops))(h:Ends P Φ m' (t++ops)):Ends P Φ m t:=by
 obtain⟨M,last,o,w',t',h1,h2,h3,h4⟩:=h
 refine⟨M+1,last,o,w',t',?_,?_,h3,h4⟩
 ·rw[runNT_succ_next hs];exact h1
 ·rw[runN_next (show step P m=.next m' by unfold step;rw[hs])];exact h2
section
variable {P:Program}{Φ:Value→World→Prop}{w00:World}{S0 S:Nat→Prop}
theorem View.at_{R:Nat→Prop}{w W:World}(h:View S R w W)(d:Nat):View S R (w.at d) (W.at d):=⟨h.tape,rfl,h.os,h.output,h.size,h.same,h.lent,h.pois,h.plain⟩
theorem Rv.at_(W:World)(d:Nat):Rv W (W.at d):=⟨rfl,rfl,rfl,fun _ _ h=>h⟩
theorem evl_of{Shun:Loc→Prop}(hSh:∀l,Shun l→∃a:Addr,l=.cell a∧S a.block){n:Nat}{e:Event}{R:Nat→Prop}(h:EvS S R n e):EvL Shun n e:=by
 obtain⟨loc,wr,sy⟩:=e
 cases loc with
 | cell a=>
  obtain⟨h1,h2,-⟩:=h
  refine⟨fun x hx hs=>?_,(by simp),(by simp),h2⟩
  have:x.loc=.cell a:=by
   simp only[MemAct.ofEvent,MemAct.touch?,Option.some.injEq] at hx
   rw[←hx]
  obtain⟨a',e1,e2⟩:=hSh _ hs
  rw[this] at e1
  injection e1 with e1
  exact absurd (e1▸e2) h1
 | obj r=>
  obtain⟨h1,h2,-⟩:=h
  have key:∀x,(MemAct.ofEvent {loc:=Loc.obj r,write:=wr,sync:=sy}).touch? = some x→¬Shun x.loc:=fun x hx hs=>by
   have:x.loc=.obj r:=by
    cases wr<;>cases sy<;>simp[MemAct.ofEvent,MemAct.touch?] at hx<;>rw[←hx]
   obtain⟨a',e1,e2⟩:=hSh _ hs
   rw[this] at e1
   cases e1
  refine⟨fun x hx hs=>absurd hs (key x hx),?_,?_,?_⟩<;>cases wr<;>cases sy<;>first|exact h2|simp[MemAct.ofEvent]|simp[MemAct.ofEvent,MemAct.low,h2]
 | mark m=>
  have h:m=.noRoom:=h
  subst h
  exact⟨fun x hx=>by simp[MemAct.ofEvent,MemAct.touch?] at hx,by simp,by simp,trivial⟩
 | output=>exact h.elim
 | goroutines=>exact h.elim
theorem kN{t u:Trace}(h:∀(k:Nat) (a:Addr),t.act? k≠some (.mark (.release a)))(hu:∀op∈u,∀a:Addr,op.act≠.mark (.release a)):∀(k:Nat) (a:Addr),(t++u).act? k≠some (.mark (.release a)):=fun k a e=>by
 obtain⟨op,ho,hoa⟩:=Option.map_eq_some_iff.1 e
 rcases getElem?_append_cases ho with ⟨_,ho'⟩|⟨_,hou⟩
 ·exact h k a (by rw[act?_of ho',hoa])
 ·exact hu op hou a hoa
theorem evS_norel{R:Nat→Prop}{n:Nat}{e:Event}(h:EvS S R n e)(a:Addr):MemAct.ofEvent e≠.mark (.release a):=by
 obtain⟨loc,wr,sy⟩:=e
 cases loc with
 | cell b=>simp[MemAct.ofEvent]
 | obj r=>cases wr<;>cases sy<;>simp[MemAct.ofEvent]
 | mark m=>
  have h:m=.noRoom:=h
  subst h
  simp[MemAct.ofEvent]
 | output=>exact h.elim
 | goroutines=>exact h.elim
theorem mute_norel{e:Event}(h:Event.mute e=true)(a:Addr):MemAct.ofEvent e≠.mark (.release a):=by
 obtain⟨loc,wr,sy⟩:=e
 cases loc with
 | mark m=>cases m<;>simp[Event.mute] at h<;>simp[MemAct.ofEvent]
 | _=>simp[Event.mute] at h
theorem kZ{co:Bool} : Closed P co (Er P Φ w00 S0) where
 par:=fun _ f args W R h cs hc=>h Φ w00 S0 cs hc
 mono:=fun h k W1 h1=>h W1 (k.trans h1)
 step:=by
  intro g W hrun hstep W1 h1 hz S w gs sl t hv hs0 h0 hB
  obtain⟨⟨q,hL⟩,⟨Shun,hP,hSh⟩,hqt⟩:=hB
  obtain⟨M,hM⟩:∃M,sumTo gs.size q≤M:=⟨_,Nat.le_refl _⟩
  induction M using Nat.strongRecOn generalizing gs w W1 sl t q with
  | ind M ih=>
   have haw:∀g∈gs,awake g:=by
    intro x hg
    obtain⟨i,hi,rfl⟩:=Array.mem_iff_getElem.1 hg
    rcases Nat.eq_zero_or_pos i with rfl|hpos
    ·have:gs[0]=g:=by simpa[Array.getElem?_eq_getElem hi] using h0
     rw[this];exact awake_of (.inl hrun)
    ·exact awake_of ((hL.old i _ hpos (Array.getElem?_eq_getElem hi)).status.elim .inl fun x=>.inr (.inr x))
   obtain⟨i,g2,d,sl',hi,hg,hst⟩:=crowd_pick (P:=P) (w:=w) (sl:=sl) haw ⟨0,g,h0,hrun⟩
   rcases Nat.eq_zero_or_pos i with rfl|hpos
   ·obtain rfl:g2=g:=by rw[h0] at hi;exact(Oi hi).symm
    obtain⟨g',W',hV,hE⟩:=hstep (W1.at d) (h1.trans (Rv.at_ W1 d))
    obtain⟨w',es,hgo,hv',hk,hev⟩:=hV true S (fun _=>False) (w.at d) (hv.at_ d)
    have hrunT:=runT_crowd_go (P:=P) (sl:=sl') (i:=0) hi (show stepG P (0==0) g2 (w.at d)=_ from hgo)
    have hlt:0<gs.size:=(Array.getElem?_eq_some_iff.1 h0).1
    refine Ends.next (hst.trans hrunT) (hE W' (Rv.refl W') (by have e1:=hv.size;have e2:=hv'.size;have e3:w.heap.size≤w'.heap.size:=hk.size;omega) S w' _ sl' _ hv' ⟨fun b hb=>⟨(hs0.1 b hb).1,(hk.same b (.inl (hs0.1 b hb).1)).trans (hs0.1 b hb).2⟩,hs0.2⟩ (by simp[hlt]) ⟨⟨q,⟨fun j x hj hx=>?_,fun j hj=>?_⟩⟩,⟨Shun,?_,hSh⟩,kN hqt fun op hop a=>by obtain⟨e,hee,rfl⟩:=Go.Conc.mem_ofEvents hop;exact evS_norel (hev e hee) a⟩)
    ·have hne:0≠j:=by omega
     rw[Array.getElem?_setIfInBounds_ne hne,Array.getElem?_map] at hx
     obtain⟨y,hy,rfl⟩:=Option.map_eq_some_iff.1 hx
     have hq:=hL.old j y hj hy
     rw[woken_quitsD hq,Deaf_other t (by omega) _ (fun op hop=>by obtain⟨e,_,rfl⟩:=Go.Conc.mem_ofEvents hop;rfl)]
     exact hq
    ·rw[Deaf_other t (g':=0) (by simp at hj;omega) _ (fun op hop=>by obtain⟨e,_,rfl⟩:=Go.Conc.mem_ofEvents hop;rfl)]
     exact hL.above j (by simpa using hj)
    ·exact(hP.mono (show w.heap.size≤w'.heap.size from hk.size)).own fun e he=>evl_of hSh (hev e he)
   ·have hq:=hL.old i g2 hpos hi
    have hi0:(i==0)=false:=by simp;omega
    have hlt:i<gs.size:=(Array.getElem?_eq_some_iff.1 hi).1
    cases hqi:q i with
    | zero=>rw[hqi] at hq;rw[hq.1] at hg;cases hg
    | succ k=>
     rw[hqi] at hq
     rcases hq with ⟨hf,_⟩|⟨_,g',es,hm,hstp,hq'⟩
     ·rw[hf] at hg;cases hg
     have hrunT:=runT_crowd_go (P:=P) (sl:=sl') (i:=i) hi (by rw[hi0];exact hstp (w.at d))
     have hsum:sumTo gs.size (upd q i k)+(k+1)=sumTo gs.size q+k:=by
      have:=sumTo_upd q k id hlt
      simpa[hqi] using this
     have hsz:((gs.map (woken P g2 g' (w.at d))).setIfInBounds i g').size=gs.size:=by simp
     refine Ends.next (hst.trans hrunT) (ih (M-1) (by omega) (W1.at d) (h1.trans (Rv.at_ W1 d)) hz (w.at d) _ sl' _ (hv.at_ d) hs0 ?_ (kN hqt fun op hop a=>by obtain⟨e,hee,rfl⟩:=Go.Conc.mem_ofEvents hop;exact mute_norel (hm e hee) a) (upd q i k) ⟨fun j x hj hx=>?_,fun j hj=>?_⟩ (hP.mute (by omega) hm) (by rw[hsz];omega))
     ·have hne:i≠0:=by omega
      rw[Array.getElem?_setIfInBounds_ne hne,Array.getElem?_map,h0]
      simp[woken_run hrun]
     ·by_cases hji:i=j
      ·subst hji
       rw[Array.getElem?_setIfInBounds_self_of_lt (by simpa using hlt)] at hx
       obtain rfl:=Oi hx
       rw[upd_same,Deaf_own]
       exact hq'
      ·rw[Array.getElem?_setIfInBounds_ne hji,Array.getElem?_map] at hx
       obtain⟨y,hy,rfl⟩:=Option.map_eq_some_iff.1 hx
       have hqj:=hL.old j y hj hy
       rw[woken_quitsD hqj,upd_ne q k (Ne.symm hji),Deaf_other t hji _ (fun op hop=>by obtain⟨e,_,rfl⟩:=Go.Conc.mem_ofEvents hop;rfl)]
       exact hqj
     ·rw[Deaf_other t (g':=i) (by simp at hj;omega) _ (fun op hop=>by obtain⟨e,_,rfl⟩:=Go.Conc.mem_ofEvents hop;rfl)]
      exact hL.above j (by simpa using hj)
end
end Go.Proofs.YtgigkennhdolpaaGreatDoor
namespace Go.Proofs.YtgigkennhdolpaaGreatDoor
open Go.Conc
open Go.ConcN (sumTo upd sumTo_upd upd_ne upd_same)
structure Bas (a w:World):Prop where
 os:w.os=a.os
 tape:w.tape=a.tape
 output:w.output=a.output
structure Cw (P:Program) where
 act:Nat→Prop
 zero:act 0
 lib:Nat→Prop
 w0:World
 Q:Nat→Goroutine→World→Prop
 R:Nat→Nat→Prop
 Zb:Nat→Prop
 z:Nat→Option Obj
 Iv:(Nat→Nat→Prop)→Nat→Trace→Prop
 later:∀{i:Nat} {g:Goroutine} {W W1:World},Q i g W→Rv W W1→Q i g W1
 woke:∀{i:Nat} {g p p':Goroutine} {W w':World},Q i g W→(∀b,Zb b→w'.heap[b]? = z b)→Q i (woken P p p' w' g) W
 own:∀{S:Nat→Nat→Prop} {n n':Nat} {t:Trace} {i:Nat} {fn:FuncId} {pos:String} {es:Array Event},act i→¬lib i→Iv S n t→n≤n'→
  (∀j k:Nat,act j→act k→j≠k→∀b,b<n→S j b∨S k b∨R k b)→(∀e∈es,EvS (S i) (R i) n' e)→
  Iv (fun j b=>S j b∨(j≠i∧n≤b∧b<n')) n' (t++MemOp.ofEvents i fn pos es)
 mute:∀{S:Nat→Nat→Prop} {n:Nat} {t:Trace} {i:Nat} {fn:FuncId} {pos:String} {es:Array Event},¬act i→Iv S n t→(∀e∈es,Event.mute e=true)→Iv S n (t++MemOp.ofEvents i fn pos es)
structure bx {P:Program} (C:Cw P) (gs:Array Goroutine) (w:World) (t:Trace) (S:Nat→Nat→Prop) (V:Nat→World) (rk:Nat→Rk) (q:Nat→Nat):Prop where
 walk:∀(i:Nat) (g:Goroutine),C.act i→gs[i]? = some g→GsR P (C.Q i) (rk i) g (V i)
 view:∀i:Nat,C.act i→View (S i) (C.R i) w (V i)
 apart:∀i j:Nat,C.act i→C.act j→i≠j→∀b,b<w.heap.size→S i b∨S j b∨C.R j b
 common:∀b:Nat,C.Zb b→(∀i,C.act i→S i b∨C.R i b)∧w.heap[b]? = C.z b
 old:∀(i:Nat) (g:Goroutine),¬C.act i→gs[i]? = some g→QuitsD P (q i) (Deaf t i) g
 above:∀j:Nat,gs.size≤j→Deaf t j=0
 trace:C.Iv S w.heap.size t
 still:∀i:Nat,C.lib i→rk i=.leaf
 here:∀i:Nat,C.act i→i<gs.size
 base:Bas C.w0 w
section
variable {P:Program}{C:Cw P}{Φ:Value→World→Prop}{gs:Array Goroutine}{w:World}{t:Trace}{S:Nat→Nat→Prop}{V:Nat→World}{rk:Nat→Rk}{q:Nat→Nat}
theorem GsR.at_{Q:Goroutine→World→Prop}(hQ:∀{g W W1},Q g W→Rv W W1→Q g W1){r:Rk}{g:Goroutine}{W:World}(h:GsR P Q r g W)(d:Nat):GsR P Q r g (W.at d):=h.later hQ (Rv.at_ W d)
theorem bx.at_(h:bx C gs w t S V rk q)(d:Nat):bx C gs (w.at d) t S (fun i=>(V i).at d) rk q:=
 ⟨fun i g ha hg=>GsR.at_ (Q:=C.Q i) (fun h r=>C.later h r) (h.walk i g ha hg) d,fun i ha=>(h.view i ha).at_ d,h.apart,h.common,h.old,h.above,h.trace,h.still,h.here,⟨h.base.os,h.base.tape,h.base.output⟩⟩
theorem GsR.woke{i:Nat}{r:Rk}{g p p':Goroutine}{W w':World}(h:GsR P (C.Q i) r g W)(hz:∀b,C.Zb b→w'.heap[b]? = C.z b):GsR P (C.Q i) r (woken P p p' w' g) W:=by
 cases r with
 | leaf=>exact C.woke h hz
 | mk f=>rw[woken_run h.1];exact h
theorem bx.step(h:bx C gs w t S V rk q){i:Nat}{g:Goroutine}(ha:C.act i)(hi:gs[i]? = some g){f:World→Rk}(hr:rk i=.mk f)(sl:Option (Nat×Nat)) :
  ∃g' w' es S' V' rk',runT P (crowd gs w sl) i=(.next (crowd ((gs.map (woken P g g' w')).setIfInBounds i g') w' sl),MemOp.ofEvents i g.frame.fn g.frame.place es)∧Low gs.size rk' rk ∧
   bx C ((gs.map (woken P g g' w')).setIfInBounds i g') w' (t++MemOp.ofEvents i g.frame.fn g.frame.place es) S' V' rk' q:=by
 have hlt:i<gs.size:=(Array.getElem?_eq_some_iff.1 hi).1
 have hw:=h.walk i g ha hi
 rw[hr] at hw
 obtain⟨hrun,hstep⟩:=hw
 obtain⟨g',W',hV,hG⟩:=hstep (V i) (Rv.refl _)
 obtain⟨w',es,hgo,hv',hk,hev⟩:=hV (i==0) (S i) (C.R i) w (h.view i ha)
 have hnx:∀j:Nat,∃W2,C.act j→j≠i→Rv (V j) W2∧View (fun b=>S j b∨(w.heap.size≤b∧b<w'.heap.size)) (C.R j) w' W2:=fun j=>by
  by_cases hj:C.act j∧j≠i
  ·obtain⟨W2,k1,k2⟩:=(h.view j hj.1).beside hk (fun b hb=>by
    rcases h.apart j i hj.1 ha hj.2 b hb with x|x|x
    ·exact .inl x
    ·exact .inr (.inl x)
    ·exact .inr (.inr x)) (fun b hb=>by rw[(h.view j hj.1).size];exact(h.view j hj.1).low (.inr hb))
   exact⟨W2,fun _ _=>⟨k1,k2⟩⟩
  ·exact⟨V j,fun a b=>absurd ⟨a,b⟩ hj⟩
 have hz:∀b,C.Zb b→w'.heap[b]? = C.z b:=fun b hb=>(hk.same b ((h.common b hb).1 i ha)).trans (h.common b hb).2
 classical
 refine⟨g',w',es,fun j b=>S j b∨(j≠i∧w.heap.size≤b∧b<w'.heap.size),fun j=>if j=i then W' else(hnx j).choose,upd rk i (f (V i)),runT_crowd_go hi hgo,⟨i,hlt,?_,fun j hj=>upd_ne rk _ hj⟩,?_⟩
 ·rw[upd_same,hr];exact⟨V i,rfl⟩
 refine⟨fun j x hj hx=>?_,fun j hj=>?_,fun j k hj hk' hne b hb=>?_,fun b hb=>⟨fun j hj=>((h.common b hb).1 j hj).imp .inl id,hz b hb⟩,fun j x hj hx=>?_,fun j hj=>?_,C.own ha (fun hl=>by have:=h.still i hl;rw[hr] at this;cases this) h.trace hk.size h.apart hev,fun j hj=>?_,fun j hj=>by simpa using h.here j hj,⟨hk.os.trans h.base.os,hk.tape.trans h.base.tape,hk.output.trans h.base.output⟩⟩
 ·by_cases e:j=i
  ·subst e
   rw[Array.getElem?_setIfInBounds_self_of_lt (by simpa using hlt)] at hx
   obtain rfl:=Oi hx
   rw[upd_same]
   simp only[if_true]
   exact hG
  ·rw[Array.getElem?_setIfInBounds_ne (Ne.symm e),Array.getElem?_map] at hx
   obtain⟨y,hy,rfl⟩:=Option.map_eq_some_iff.1 hx
   rw[upd_ne rk _ e]
   simp only[if_neg e]
   exact(GsR.later (Q:=C.Q j) (fun h r=>C.later h r) (h.walk j y hj hy) ((hnx j).choose_spec hj e).1).woke hz
 ·by_cases e:j=i
  ·have e2:(fun b=>S j b∨(j≠i∧w.heap.size≤b∧b<w'.heap.size))=S i:=by subst e;funext b;simp
   rw[e2]
   simp only[if_pos e]
   exact e▸hv'
  ·have e2:(fun b=>S j b∨(j≠i∧w.heap.size≤b∧b<w'.heap.size))=fun b=>S j b∨(w.heap.size≤b∧b<w'.heap.size):=by funext b;simp[e]
   rw[e2]
   simp only[if_neg e]
   exact((hnx j).choose_spec hj e).2
 ·by_cases hb':b<w.heap.size
  ·rcases h.apart j k hj hk' hne b hb' with x|x|x
   ·exact .inl (.inl x)
   ·exact .inr (.inl (.inl x))
   ·exact .inr (.inr x)
  ·by_cases e:j=i
   ·exact .inr (.inl (.inr ⟨fun e'=>hne (e.trans e'.symm),by omega,hb⟩))
   ·exact .inl (.inr ⟨e,by omega,hb⟩)
 ·have e:j≠i:=fun e=>hj (e▸ha)
  rw[Array.getElem?_setIfInBounds_ne (Ne.symm e),Array.getElem?_map] at hx
  obtain⟨y,hy,rfl⟩:=Option.map_eq_some_iff.1 hx
  have hq:=h.old j y hj hy
  rw[woken_quitsD hq,Deaf_other t (Ne.symm e) _ (fun op hop=>by obtain⟨e,_,rfl⟩:=Go.Conc.mem_ofEvents hop;rfl)]
  exact hq
 ·rw[Deaf_other t (g':=i) (by simp at hj;omega) _ (fun op hop=>by obtain⟨e,_,rfl⟩:=Go.Conc.mem_ofEvents hop;rfl)]
  exact h.above j (by simpa using hj)
 ·have e:j≠i:=fun e=>by have:=h.still i (e▸hj);rw[hr] at this;cases this
  rw[upd_ne rk _ e];exact h.still j hj
theorem bx.leave(h:bx C gs w t S V rk q){i:Nat}{g:Goroutine}(ha:¬C.act i)(hi:gs[i]? = some g)(hg:g.status=.running)(sl:Option (Nat×Nat)) :
  ∃gs' es k,q i=k+1∧gs'.size=gs.size∧runT P (crowd gs w sl) i=(.next (crowd gs' w sl),MemOp.ofEvents i g.frame.fn g.frame.place es)∧bx C gs' w (t++MemOp.ofEvents i g.frame.fn g.frame.place es) S V rk (upd q i k):=by
 have hq:=h.old i g ha hi
 have hpos:i≠0:=fun e=>ha (e▸C.zero)
 have hi0:(i==0)=false:=by simpa using hpos
 have hlt:i<gs.size:=(Array.getElem?_eq_some_iff.1 hi).1
 cases hqi:q i with
 | zero=>rw[hqi] at hq;rw[hq.1] at hg;cases hg
 | succ k=>
  rw[hqi] at hq
  rcases hq with ⟨hf,_⟩|⟨_,g',es,hm,hstp,hq'⟩
  ·rw[hf] at hg;cases hg
  refine⟨(gs.map (woken P g g' w)).setIfInBounds i g',es,k,rfl,by simp,runT_crowd_go hi (by rw[hi0];exact hstp w),?_⟩
  refine⟨fun j x hj hx=>?_,h.view,h.apart,h.common,fun j x hj hx=>?_,fun j hj=>?_,C.mute ha h.trace hm,h.still,fun j hj=>by simpa using h.here j hj,h.base⟩
  ·have e:j≠i:=fun e=>ha (e▸hj)
   rw[Array.getElem?_setIfInBounds_ne (Ne.symm e),Array.getElem?_map] at hx
   obtain⟨y,hy,rfl⟩:=Option.map_eq_some_iff.1 hx
   exact(h.walk j y hj hy).woke fun b hb=>(h.common b hb).2
  ·by_cases e:j=i
   ·subst e
    rw[Array.getElem?_setIfInBounds_self_of_lt (by simpa using hlt)] at hx
    obtain rfl:=Oi hx
    rw[upd_same,Deaf_own]
    exact hq'
   ·rw[Array.getElem?_setIfInBounds_ne (Ne.symm e),Array.getElem?_map] at hx
    obtain⟨y,hy,rfl⟩:=Option.map_eq_some_iff.1 hx
    have hqj:=h.old j y hj hy
    rw[woken_quitsD hqj,upd_ne q k e,Deaf_other t (Ne.symm e) _ (fun op hop=>by obtain⟨e,_,rfl⟩:=Go.Conc.mem_ofEvents hop;rfl)]
    exact hqj
  ·rw[Deaf_other t (g':=i) (by simp at hj;omega) _ (fun op hop=>by obtain⟨e,_,rfl⟩:=Go.Conc.mem_ofEvents hop;rfl)]
   exact h.above j (by simpa using hj)
end
end Go.Proofs.YtgigkennhdolpaaGreatDoor
