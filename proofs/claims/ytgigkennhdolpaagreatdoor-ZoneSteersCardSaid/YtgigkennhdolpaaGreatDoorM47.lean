/- ZoneSteers: the walk. Company, 14: from a contract in company to one good run of the machine, from its start to its end. A symbolic executor with lists, 20: a law's arguments, opened. From a walk to a row: what every law of this seat needs behind its walk. -/
import Derived.Test.YtgigkennhdolpaaGreatDoorM36
import Derived.Test.YtgigkennhdolpaaGreatDoorM37
import Derived.Test.YtgigkennhdolpaaGreatDoorM46
import Derived.Test.YtgigkennhdolpaaGreatDoorM22
import Derived.Test.YtgigkennhdolpaaGreatDoorM24
import Derived.Test.YtgigkennhdolpaaGreatDoorM17
import Derived.ProofKit
import Derived.OpenShut
import Derived.Deep.Slices
import Derived.Test.YtgigkennhdolpaaGreatDoorRows
import Derived.Test.YtgigkennhdolpaaGreatDoorM0
import Derived.LaidMore
import Derived.LaidOnce
import Derived.Stop.Joined
namespace Go.Proofs.YtgigkennhdolpaaGreatDoor
open Go.RowKit
theorem jj{g:Nat→Bool} : ∀{r k:Nat},bc g k (r+1)=(bc g k r||g (k+r))
 | 0,k=>by
  show (match g k with|true=>true|false=>false)=(false||g (k+0))
  cases h:g k<;>simp[h]
 | r+1,k=>by
  have ih:=jj (g:=g) (r:=r) (k:=k+1)
  show (match g k with|true=>true|false=>bc g (k+1) (r+1))=((match g k with|true=>true|false=>bc g (k+1) r)||g (k+(r+1)))
  cases h:g k with
  | true=>rfl
  | false=>simp only[ih];rw[show k+1+r=k+(r+1) by omega]
theorem anyN_ex{g:Nat→Bool}{n:Nat}(h:bc g 0 n=true):∃j,j<n∧g j=true:=by
 cases hb:(List.range n).any g with
 | true=>
  obtain⟨j,hj,hg⟩:=List.any_eq_true.1 hb
  exact⟨j,List.mem_range.1 hj,hg⟩
 | false=>
  have:bc g 0 n=false:=nc fun i _ hi=>by
   have:=List.any_eq_false.1 hb i (List.mem_range.2 (by omega))
   simpa using this
  rw[this] at h;cases h
theorem anyN_yes{g:Nat→Bool}{n j:Nat}(hj:j<n)(hg:g j=true):bc g 0 n=true:=by
 cases h:bc g 0 n with
 | true=>rfl
 | false=>rw[gQ h j (Nat.zero_le _) (by omega)] at hg;cases hg
theorem now_rng{w:Wor}{l:bw}(hv:w.Valid)(hm:∀i,i<l.n→InR (l.e i).moveX∧InR (l.e i).moveY){i:Nat}(hi:i<w.l.n) : -4096≤(cV (iu w l) (w.l.e i).iD 2).1.v0∧(cV (iu w l) (w.l.e i).iD 2).1.v0≤4096∧-4096≤(cV (iu w l) (w.l.e i).iD 2).1.v1∧(cV (iu w l) (w.l.e i).iD 2).1.v1≤4096:=by
 rw[strW_get hv hm hi]
 cases h2:dP (aR l (w.l.e i)).l 2 with
 | false=>rw[getC_no h2];decide
 | true=>
  rw[mW (str_inc hv hm hi) h2]
  have hf:=((jo hv hm).right i hi).fits _ (show ixC (aR l (w.l.e i)).l 2<((iu w l).l.e i).l.n from Od h2)
  have hf:(aR l (w.l.e i)).l.c (ixC (aR l (w.l.e i)).l 2) |>.Fits:=hf
  have:=hf.2.2.2.1 (kr h2)
  dsimp only
  omega
def stH(z:Zon)(v:Wor):bd:=[(0,.lay z.cells 36),(1,.lay v.cells 28)]
def stSl(z:Zon)(l:bw)(i:Nat):List (Nat×Slot):=[sl 1 l.sv,sl 2 (.p 0 0),sl 5 (.p 1 0),sl 63 z.wEntities.sv,sl 64 (i64 z.wEntities.n),sl 65 (i64 i)]
def stO(z:Zon)(l:bw)(v:Wor):Cut:=⟨Nat,fun i=>i≤z.wEntities.n,fun i=>⟨stSl z l i,stH z v,2,0,[],[]⟩,fun i=>z.wEntities.n-i⟩
def stI(z:Zon)(l:bw)(v:Wor)(i:Nat)(was now own:aJ)(owned:Bool)(A X:Nat→Bool):Cut:=⟨Nat×Bool×Bool,fun a=>a.1≤l.n∧a.2.1=bc A 0 a.1∧a.2.2=bc X 0 a.1,
 fun a=>⟨stSl z l i++[sl 8 (.p 2 0),sl 10 (.p 4 0),sl 12 (.p 5 0),sl 14 (.p 6 0),sl 15 (.v (.bool owned)),sl 16 (.v (.bool a.2.1)),sl 17 (.v (.bool a.2.2)),sl 111 l.sv,sl 112 (i64 l.n),sl 113 (i64 a.1)],
  stH z v++[(2,.lay (z.wEntities.e i).cells 42),(4,.lay was.cells 46),(5,.lay now.cells 46),(6,.lay own.cells 46)],7,0,[],[]⟩,fun a=>l.n-a.1⟩
section
variable (F:Wor→bw→Wor×Int)(hF:F=bz)
set_option maxHeartbeats 4000000 in
set_option maxRecDepth 8000 in
theorem ZSteers_walk:∀a,aK ((fun a:Zon×bw=>[a.1.Sm,(a.2.n:Int)≤cJ,∀i,i<a.2.n→InR (a.2.e i).moveX∧InR (a.2.e i).moveY]) a)→aX (C:=cxP) [conFew30.lift rfl,conAwake30,(conSteerV F hF).lift rfl,conSameW.lift rfl,je.lift rfl,conPart.lift rfl,conMask.lift rfl,conSameE.lift rfl,conGet.lift rfl] [] 0 ⟨[12],[],[9,19],0⟩ Tryz.f5 ((aV lJ iQ).enc a) fun v H _=>ai (.bl true) H v:=by
 intro⟨z,l⟩ ⟨hz,hl,hm⟩
 replace hz:z.Sm:=hz
 replace hl:(l.n:Int)≤cJ:=hl
 have hl':(l.n:Int)≤9223372036854775807:=hl
 replace hm:∀i,i<l.n→InR (l.e i).moveX∧InR (l.e i).moveY:=hm
 have hn:(z.wEntities.n:Int)≤9223372036854775807:=hz.l.1
 refine Ai ⟨(by repeat' (first|exact trivial|exact rfl|refine Ai ?_ ?_|intro _)),(by repeat' (first|exact trivial|exact rfl|refine Ai ?_ ?_|intro _)),(by repeat' (first|exact trivial|exact rfl|refine Ai ?_ ?_|intro _)),(by repeat' (first|exact trivial|exact rfl|refine Ai ?_ ?_|intro _)),(by repeat' (first|exact trivial|exact rfl|refine Ai ?_ ?_|intro _)),hz.l,hz.p,hz.nm⟩ ?_
 refine Ai (fun _=>?_) (fun _=>?_)
 ·exact rfl
 refine Ai ⟨(by repeat' (first|exact trivial|exact rfl|refine Ai ?_ ?_|intro _)),(by repeat' (first|exact trivial|exact rfl|refine Ai ?_ ?_|intro _)),hz.l,hl,hm⟩ ?_
 refine Ai (fun hc=>?_) (fun hc=>?_)
 ·have hc:decide (¬(F z.w l).2=0)=true:=hc
  have hc:(F z.w l).2≠0:=Od hc
  have e:F z.w l=(⟨0,⟨0,fun _=>Ent.no⟩⟩,2):=by rw[hF] at hc ⊢;exact steerE_no hc
  have e1:(F z.w l).1.l.n=0:=by rw[e]
  have e2:(F z.w l).1.tick=0:=by rw[e]
  refine Ai ⟨(by repeat' (first|exact trivial|exact rfl|refine Ai ?_ ?_|intro _)),(show ((F z.w l).1.l.n:Int)≤cJ by rw[e1];decide),fun i hi=>absurd (show i<(F z.w l).1.l.n from hi) (by rw[e1];omega)⟩ ?_
  have hs:lI (F z.w l).1 (Wor.of (.agg [.il .i64 0,.v (.slice none 0 0)]))=true:=by
   unfold lI
   rw[e1,e2]
   rfl
  refine Eq.trans (a:=true) (b:=(lI (F z.w l).1 (Wor.of (.agg [.il .i64 0,.v (.slice none 0 0)]))||false)) ?_ ?_
  ·rw[hs];rfl
  ·exact rfl
 have hc:decide (¬(F z.w l).2=0)=false:=hc
 have hc:(F z.w l).2=0:=by simpa using hc
 obtain⟨hN,hV,hE⟩:=steerE_ok (w:=z.w) (l:=l) (by rw[←hF];exact hc)
 have hE1:(F z.w l).1=iu z.w l:=by rw[hF,hE]
 refine Ai ⟨(by repeat' (first|exact trivial|exact rfl|refine Ai ?_ ?_|intro _)),?_⟩ ?_
 ·show (F z.w l).1.l.Sm
  rw[hE1];exact strW_sm hz.l
 refine Ai (fun hx=>?_) (fun _=>?_)
 ·exfalso
  have hx:((!(F z.w l).1.valid)||decide (¬(F z.w l).1.tick=z.wTick)||decide (¬((F z.w l).1.l.n:Int)=z.wEntities.n))=true:=hx
  rw[hE1,Wor.dq.2 (jo hV hm),decide_eq_false (by intro h;exact h rfl),decide_eq_false (by intro h;exact h rfl)] at hx
  cases hx
 refine Exists.intro (stO z l (F z.w l).1) ?_
 refine Ai ?_ ?_
 ·refine⟨(0:Nat),[],[],trivial,Nat.zero_le _,?_⟩
  repeat' (first|(refine Ai ?_ ?_)|(intro _)|exact rfl)
  all_goals exact fU (hz.nm _ (by assumption))
 refine fun(i:Nat) (hi:i≤z.wEntities.n)=>?_
 refine Ai (fun hb=>?_) (fun hb=>?_)
 rotate_left
 ·exact rfl
 have hb:(i:Int)<z.wEntities.n:=Od hb
 have hvi:i<(F z.w l).1.l.n:=by rw[hE1];show i<z.wEntities.n;omega
 refine Ai ⟨by omega,by omega⟩ ?_
 refine Ai ⟨by omega,(show ((i:Int))<(F z.w l).1.l.n by omega)⟩ ?_
 have hvx:=(hV.right i (show i<z.w.l.n by show i<z.wEntities.n;omega)).len
 have hvx:((z.wEntities.e i).l.n:Int)≤10:=hvx
 have hxs:(z.wEntities.e i).l.Sm:=hz.l.2 i (by omega)
 have hy:(F z.w l).1.l.e i=aR l (z.wEntities.e i):=by rw[hE1];rfl
 have hys:((F z.w l).1.l.e i).l.Sm:=by rw[hE1];exact(strW_sm (w:=z.w) (l:=l) hz.l).2 i (show i<z.wEntities.n by omega)
 have hyn:((F z.w l).1.l.e i).l.n≤100000:=by rw[hy,eN];omega
 refine Ai ⟨(by repeat' (first|exact trivial|exact rfl|refine Ai ?_ ?_|intro _)),(show (z.wEntities.e i).l.Sm from hxs),(show (z.wEntities.e i).l.n≤100000 by omega)⟩ ?_
 refine Ai ⟨(by repeat' (first|exact trivial|exact rfl|refine Ai ?_ ?_|intro _)),(show ((F z.w l).1.l.e i).l.Sm from hys),(show ((F z.w l).1.l.e i).l.n≤100000 from hyn)⟩ ?_
 refine Ai ⟨(by repeat' (first|exact trivial|exact rfl|refine Ai ?_ ?_|intro _)),(by repeat' (first|exact trivial|exact rfl|refine Ai ?_ ?_|intro _)),(show (((prtE (z.wEntities.e i) 2042).l.n:Nat):Int)≤cJ from ?_)⟩ ?_
 ·have:=jc (f:=fun j=>(z.wEntities.e i).l.c j) (g:=fun j=>oH 2042 ((z.wEntities.e i).l.c j).kind) (z.wEntities.e i).l.n
  show (((ic (z.wEntities.e i).l 2042 (z.wEntities.e i).l.n).length:Nat):Int)≤9223372036854775807
  unfold ic
  omega
 refine Ai (fun _=>⟨(by repeat' (first|exact trivial|exact rfl|refine Ai ?_ ?_|intro _)),(show (z.wEntities.e i).l.Sm from hxs)⟩) ?_
 refine Ai (fun _=>⟨(by repeat' (first|exact trivial|exact rfl|refine Ai ?_ ?_|intro _)),(show ((F z.w l).1.l.e i).l.Sm from hys)⟩) ?_
 refine Ai (fun hx=>?_) (fun _=>?_)
 ·exfalso
  have hx:((!fc (prtE (z.wEntities.e i) 2042) (prtE ((F z.w l).1.l.e i) 2042))||decide (¬mskE (z.wEntities.e i)=mskE ((F z.w l).1.l.e i)))=true:=hx
  rw[hy,part_str,msk_str,sameE_refl,decide_eq_false (by intro h;exact h rfl)] at hx
  cases hx
 refine Ai ⟨(by repeat' (first|exact trivial|exact rfl|refine Ai ?_ ?_|intro _)),(show z.wEntities.Sm from hz.l)⟩ ?_
 refine Ai ⟨(by repeat' (first|exact trivial|exact rfl|refine Ai ?_ ?_|intro _)),(show (F z.w l).1.l.Sm by rw[hE1];exact strW_sm hz.l)⟩ ?_
 refine Ai ⟨(by repeat' (first|exact trivial|exact rfl|refine Ai ?_ ?_|intro _)),(show z.wEntities.Sm from hz.l)⟩ ?_
 obtain⟨N,hNw⟩:∃N,N=(cV (F z.w l).1 (z.wEntities.e i).iD 2).1:=⟨_,rfl⟩
 obtain⟨A,hA⟩:∃A,A=askB z.w l i:=⟨_,rfl⟩
 obtain⟨X,hX⟩:∃X:Nat→Bool,X=exaB z.w l i:=⟨_,rfl⟩
 refine Exists.intro (stI z l (F z.w l).1 i (cV z.w (z.wEntities.e i).iD 2).1 (cV (F z.w l).1 (z.wEntities.e i).iD 2).1 (cV z.w (z.wEntities.e i).iD 4).1 (cV z.w (z.wEntities.e i).iD 4).2 A X) ?_
 refine Ai ?_ ?_
 ·refine⟨((0:Nat),false,false),[],[],trivial,⟨Nat.zero_le _,rfl,rfl⟩,?_⟩
  repeat' (first|(refine Ai ?_ ?_)|(intro _)|exact rfl)
  all_goals first|exact fU (hz.nm _ (by assumption))|trace_state
 refine fun(a:Nat×Bool×Bool) (ha:a.1≤l.n∧a.2.1=bc A 0 a.1∧a.2.2=bc X 0 a.1)=>?_
 obtain⟨k,p,q⟩:=a
 obtain⟨k1,k2,k3⟩:=ha
 replace k1:k≤l.n:=k1
 replace k2:p=bc A 0 k:=k2
 replace k3:q=bc X 0 k:=k3
 refine Ai (fun hb=>?_) (fun hb=>?_)
 ·have hb:(k:Int)<l.n:=Od hb
  refine Ai ⟨by omega,by omega⟩ ?_
  refine Ai (fun hc=>?_) (fun hc=>?_)
  ·have hc:askB z.w l i k=true:=hc
   rw[←hA] at hc
   refine Ai (by unfold I64;omega:I64 ((k:Int)+1)) ?_
   refine⟨(k+1,true,bc X 0 (k+1)),[],[],(by show l.n-(k+1)<l.n-k;omega),⟨(by show k+1≤l.n;omega),?_,rfl⟩,?_⟩
   ·show true=bc A 0 (k+1)
    rw[jj,Nat.zero_add,hc,Bool.or_true]
   repeat' (first|(refine Ai ?_ ?_)|(intro _)|exact rfl)
   all_goals first|exact fU (hz.nm _ (by assumption))|skip
   show bc X 0 (k+1)=(q||(decide ((l.e k).moveX=(cV (F z.w l).1 (z.wEntities.e i).iD 2).1.v0)&&decide ((l.e k).moveY=(cV (F z.w l).1 (z.wEntities.e i).iD 2).1.v1))||decide ((l.e k).moveX < -64)||decide (64<(l.e k).moveX)||decide ((l.e k).moveY < -64)||decide (64<(l.e k).moveY))
   rw[jj,Nat.zero_add,←k3,hE1]
   have hXk:X k=(decide ((l.e k).moveX=(cV (iu z.w l) (z.wEntities.e i).iD 2).1.v0)&&decide ((l.e k).moveY=(cV (iu z.w l) (z.wEntities.e i).iD 2).1.v1)||cutI (l.e k)):=by
    rw[hX]
    unfold exaB
    rw[←hA,hc,Bool.true_and]
    rfl
   rw[hXk]
   unfold cutI
   simp only[Bool.or_assoc]
  ·have hc:askB z.w l i k=false:=hc
   rw[←hA] at hc
   have hXk:X k=false:=by
    rw[hX]
    unfold exaB
    rw[←hA,hc];rfl
   refine Ai (by unfold I64;omega:I64 ((k:Int)+1)) ?_
   refine⟨(k+1,p,q),[],[],(by show l.n-(k+1)<l.n-k;omega),⟨(by show k+1≤l.n;omega),?_,?_⟩,?_⟩
   ·show p=bc A 0 (k+1)
    rw[jj,Nat.zero_add,hc,Bool.or_false,k2]
   ·show q=bc X 0 (k+1)
    rw[jj,Nat.zero_add,hXk,Bool.or_false,k3]
   repeat' (first|(refine Ai ?_ ?_)|(intro _)|exact rfl)
   all_goals first|exact fU (hz.nm _ (by assumption))|skip
 ·have hb:¬(k:Int)<l.n:=of_decide_eq_false hb
  obtain rfl:k=l.n:=by omega
  have hiw:i<z.w.l.n:=show i<z.wEntities.n by omega
  have hnow:cV (F z.w l).1 (z.wEntities.e i).iD 2=cV (iu z.w l) (z.w.l.e i).iD 2:=by rw[hE1];rfl
  obtain⟨r1,r2,r3,r4⟩:=now_rng hV hm hiw
  rw[←hnow] at r1 r2 r3 r4
  refine Ai (fun _ _=>⟨(by repeat' (first|exact trivial|exact rfl|refine Ai ?_ ?_|intro _)),(show (z.wEntities.e i).l.Sm from hxs)⟩) ?_
  refine Ai (fun _ _ _=>(show InR (-(cV (F z.w l).1 (z.wEntities.e i).iD 2).1.v0) by unfold InR;omega)) ?_
  refine Ai (fun _ _ _=>(show InR (-(cV (F z.w l).1 (z.wEntities.e i).iD 2).1.v1) by unfold InR;omega)) ?_
  refine Ai (fun hx=>?_) (fun _=>?_)
  ·exfalso
   have hx:(!p&&!eqC (cV z.w (z.wEntities.e i).iD 2).1 (cV (F z.w l).1 (z.wEntities.e i).iD 2).1||p&&velB (z.wEntities.e i)&&(!q||decide (64<max (max (max (cV (F z.w l).1 (z.wEntities.e i).iD 2).1.v0 (-(cV (F z.w l).1 (z.wEntities.e i).iD 2).1.v0)) (cV (F z.w l).1 (z.wEntities.e i).iD 2).1.v1) (-(cV (F z.w l).1 (z.wEntities.e i).iD 2).1.v1))))=true:=hx
   cases p with
   | false=>
    have hno:∀j,j<l.n→askB z.w l i j=false:=fun j hj=>by
     have:=gQ k2.symm j (Nat.zero_le _) (by omega)
     rw[hA] at this
     exact this
    have hs:=str_same hV hm hiw hno
    rw[hnow,hs,show cV z.w (z.w.l.e i).iD 2=cV z.w (z.wEntities.e i).iD 2 from rfl,eqC_refl] at hx
    cases hx
   | true=>
    obtain⟨j0,hj0,ha0⟩:=anyN_ex k2.symm
    rw[hA] at ha0
    simp only[Bool.not_true,Bool.false_and,Bool.false_or,Bool.true_and,Bool.and_eq_true] at hx
    obtain⟨hv2,hx⟩:=hx
    obtain⟨⟨j,hj,he⟩,b1,b2,b3,b4⟩:=str_asked hV hm hiw hj0 ha0 (velB_has hv2)
    have hq:q=true:=by rw[k3];exact anyN_yes hj (by rw[hX];exact he)
    rw[←hnow] at b1 b2 b3 b4
    rw[hq,decide_eq_false (by omega)] at hx
    cases hx
  ·refine Ai (by unfold I64;omega:I64 ((i:Int)+1)) ?_
   refine⟨i+1,[],[],(by show z.wEntities.n-(i+1)<z.wEntities.n-i;omega),(by show i+1≤z.wEntities.n;omega),?_⟩
   repeat' (first|(refine Ai ?_ ?_)|(intro _)|exact rfl)
   all_goals first|exact fU (hz.nm _ (by assumption))|skip
end
end Go.Proofs.YtgigkennhdolpaaGreatDoor
namespace Go.Proofs.YtgigkennhdolpaaGreatDoor
open Go.Conc
section
variable {P:Program}{Φ:Value→World→Prop}{w00:World}{S0:Nat→Prop}
theorem lo_same{α:Type} : ∀{m:Sem α} {w w':World} {r:α},LO P m→m.run P w=.ok r w'→w'=w:=by
 intro m
 induction m with
 | pure a=>intro w w' r _ e;simp only[Sem.run,Result.ok.injEq] at e;exact e.2.symm
 | load md a k ih=>
  intro w w' r h e
  simp only[Sem.run] at e
  split at e
  ·exact ih _ (h _) e
  ·split at e
   ·exact ih _ (h _) e
   ·cases e
 | program k ih=>exact fun h e=>ih P h e
 | halt h=>intro w w' r _ e;cases e
 | _=>exact fun h _=>h.elim
theorem er_end{fr:Frame}{v:Value}{W:World}(hl:fr.leaving P W (.returned v))(hi:P.inits.idxOf? fr.fn=none)
  (hΦ:∀W1,Rv W W1→∀(S:Nat→Prop) (w:World),View S (fun _=>False) w W1→(∀b:Nat,S0 b→S b∧w.heap[b]? = w00.heap[b]?)→(∀b:Nat,S b→S0 b∨w00.heap.size≤b)→Φ v w):Er P Φ w00 S0 (G fr []) W:=by
 intro W1 r1 hz S w gs sl t hv hs0 h0 hB
 obtain⟨⟨q,hL⟩,⟨Shun,hP,hSh⟩,-⟩:=hB
 refine beside_ends (D:=fun _ _ es=>∀e∈es,EvL Shun w.heap.size e) (fun _ _ _ h=>h) h0 hL hP (n:=0) ?_
 rintro w₁ ⟨d,rfl⟩
 refine⟨rfl,v,?_⟩
 have hv1:=hv.at_ d
 have hrr:Rv W (W1.at d):=r1.trans (Rv.at_ W1 d)
 obtain⟨l1,l2,l3,fn,l4,l5⟩:=hl
 have e1:=lo_view hrr hv1 (eX fn fr.tmps) l5
 obtain⟨u,k1,k2,kk,k3⟩:=eh #[] (eX fn fr.tmps).ns hv1 e1
 obtain rfl:=lo_same (eX fn fr.tmps) k1
 refine⟨seen P fr.fn ((results fn fr.tmps).events P (w.at d) #[]),?_,fun e he=>?_,hΦ _ hrr S _ hv1 hs0.1 hs0.2⟩
 ·obtain⟨ffn,ftmps,ftodo,fdefers,fmode,fkind,fround⟩:=fr
  simp only at l1 l2 l3 l4 k1 hi
  subst l1 l2 l3
  simp[G,stepG,unwind,doReturn,l4,k1,hi,GStep.after]
 ·rcases k3 e (mem_seen he) with x|x
  ·simp at x
  ·exact evl_of hSh x
theorem run_of_calls{f:FuncId}{args:Array Value}{w:World}{R:Ending→World→Prop}(hi:P.inits.idxOf? f=none)(hs:∀b:Nat,S0 b→b<w.heap.size)(hp:∀(b:Nat) (o:Obj),¬S0 b→w.heap[b]? = some o→Obj.plain o)
  (h:bP P true f args (mask S0 (fun _=>False) w) R)
  (hR:∀e W,R e W→∃v,e=.returned v∧∀W1,Rv W W1→∀(S:Nat→Prop) (w':World),View S (fun _=>False) w' W1→(∀b:Nat,S0 b→S b∧w'.heap[b]? = w.heap[b]?)→(∀b:Nat,S b→S0 b∨w.heap.size≤b)→Φ v w') :
  ∃M last o w' t',runNT P (M+1) (solo (G (Frame.enter P f args .normal) []) w) #[]=(.ended o w',t')∧runN P M (solo (G (Frame.enter P f args .normal) []) w)=.next last ∧
   step P last=.ended o w'∧Conc.Good P Φ last o w' t':=by
 have hE:Er P Φ w S0 (G (Frame.enter P f args .normal) []) (mask S0 (fun _=>False) w):=h _ kZ [] fun e W fr hr hf hl=>by
  obtain⟨v,rfl,k⟩:=hR e W hr
  exact er_end hl (by rw[hf];exact hi) k
 have hv:=iZ (S:=S0) (R:=fun _=>False) (w:=w) hp hs fun b _ h=>h.elim
 rw[solo_eq_crowd]
 exact hE _ (Rv.refl _) (Nat.le_of_eq hv.size) S0 w #[_] none #[] hv ⟨fun b hb=>⟨hb,rfl⟩,fun b hb=>.inl hb⟩ rfl ⟨⟨_,leavers_one P _⟩,⟨_,past_nil.mono (Nat.zero_le _),fun l h=>h.elim⟩,fun k a e=>by simp[Trace.act?] at e⟩
end
end Go.Proofs.YtgigkennhdolpaaGreatDoor
namespace Go.Proofs.YtgigkennhdolpaaGreatDoor
open Go.ChangeShapes Go.WideShapes Go.RowKit
inductive Pt where
 | int (k:IntKind)
 | bool
 | any
 | sl (sz:Nat) (e:List Pt)
 | agg (l:List Pt)
mutual
def Fit:Pt→SV→Prop
 | .int k,x=>match x with|.v (.int k' n)=>k'=k∧k.min≤n∧n≤k.max|_=>False
 | .bool,x=>match x with|.v (.bool _)=>True|_=>False
 | .any,x=>match x with|.v (.string _)=>True|_=>False
 | .sl sz ps,x=>match x with|.rs sz' n f=>sz'=sz∧n≤maxLen∧∀i,i<n→ir ps (f i)|_=>False
 | .agg ps,x=>match x with|.agg l=>ir ps l|_=>False
def ir:List Pt→List SV→Prop
 | [],x=>match x with|[]=>True|_::_=>False
 | p::r,x=>match x with|[]=>False|y::s=>Fit p y∧ir r s
end
mutual
def Pt.pat:Pt→SV
 | .int k=>.v (.int k 0)
 | .bool=>.v (.bool false)
 | .any=>.e
 | .sl sz ps=>.rs sz 0 fun _=>Pt.ma ps
 | .agg ps=>.agg (Pt.ma ps)
def Pt.ma:List Pt→List SV
 | []=>[]
 | p::r=>p.pat::Pt.ma r
end
mutual
theorem fit_alike:∀(p:Pt) (x:SV),Fit p x→alike p.pat x
 | .int k,x,h=>by
  unfold Fit at h
  split at h
  ·exact h.1
  ·exact h.elim
 | .bool,x,h=>by
  unfold Fit at h
  split at h
  ·exact trivial
  ·exact h.elim
 | .any,x,h=>trivial
 | .sl sz ps,x,h=>by
  unfold Fit at h
  split at h
  ·exact⟨h.1,fun i hi=>jK ps _ (h.2.2 i hi)⟩
  ·exact h.elim
 | .agg ps,x,h=>by
  unfold Fit at h
  split at h
  ·exact jK ps _ h
  ·exact h.elim
theorem jK:∀(p:List Pt) (x:List SV),ir p x→dL (Pt.ma p) x
 | [],x,h=>by
  cases x with
  | nil=>trivial
  | cons _ _=>exact h.elim
 | p::r,x,h=>by
  cases x with
  | nil=>exact h.elim
  | cons y s=>exact⟨fit_alike p y h.1,jK r s h.2⟩
end
mutual
theorem fit_jn:∀(p:Pt) (x:SV),Fit p x→Fit p (jn false p.pat x)
 | .int k,x,h=>by
  unfold Fit at h
  split at h
  ·exact⟨rfl,h.2⟩
  ·exact h.elim
 | .bool,x,h=>by
  unfold Fit at h
  split at h
  ·exact trivial
  ·exact h.elim
 | .any,x,h=>h
 | .sl sz ps,x,h=>by
  unfold Fit at h
  split at h
  ·exact⟨rfl,h.2.1,fun i hi=>fitL_jn ps _ (h.2.2 i hi)⟩
  ·exact h.elim
 | .agg ps,x,h=>by
  unfold Fit at h
  split at h
  ·exact fitL_jn ps _ h
  ·exact h.elim
theorem fitL_jn:∀(p:List Pt) (x:List SV),ir p x→ir p (jnL false (Pt.ma p) x)
 | [],x,h=>trivial
 | p::r,x,h=>by
  cases x with
  | nil=>exact h.elim
  | cons y s=>exact⟨fit_jn p y h.1,fitL_jn r s h.2⟩
end
theorem fit_one{ρ:Names}{p:Pt}{x:SV}{v:Value}(h:Fit p x)(hp:∀l,p≠.agg l)(hd:den ρ x v):v.oneCell'=true:=by
 cases p with
 | int k=>
  unfold Fit at h
  split at h
  ·obtain rfl:v=_:=hd;rfl
  ·exact h.elim
 | bool=>
  unfold Fit at h
  split at h
  ·obtain rfl:v=_:=hd;rfl
  ·exact h.elim
 | any=>
  unfold Fit at h
  split at h
  ·obtain rfl:v=_:=hd;rfl
  ·exact h.elim
 | sl sz ps=>
  unfold Fit at h
  split at h
  ·obtain⟨a,cap,rfl,-⟩:=hd;rfl
  ·exact h.elim
 | agg l=>exact absurd rfl (hp l)
def flatPt:Pt→Bool
 | .agg _=>false
 | _=>true
theorem fitL_one{ρ:Names} : ∀{p:List Pt} {x:List SV} {vs:List Value},ir p x→p.all flatPt=true→aj ρ x vs→∀c∈vs,c.oneCell'=true
 | [],x,vs,h,_,hd,c,hc=>by
  cases x with
  | nil=>rw[ca hd] at hc;cases hc
  | cons _ _=>exact h.elim
 | p::r,x,vs,h,hp,hd,c,hc=>by
  cases x with
  | nil=>exact h.elim
  | cons y s=>
   obtain⟨a,b,rfl,h1,h2⟩:=aG hd
   rw[List.all_cons,Bool.and_eq_true] at hp
   rcases List.mem_cons.1 hc with rfl|hc
   ·exact fit_one h.1 (fun l e=>by rw[e] at hp;exact absurd hp.1 (by simp[flatPt])) h1
   ·exact fitL_one h.2 hp.2 h2 c hc
theorem oM{p q:List Pt}{x y:List SV}(h:ir p x)(k:ir q y):ir (p++q) (x++y):=by
 induction p generalizing x with
 | nil=>
  cases x with
  | nil=>exact k
  | cons _ _=>exact h.elim
 | cons a r ih=>
  cases x with
  | nil=>exact h.elim
  | cons b s=>exact⟨h.1,ih h.2⟩
def flatFs(rec:Nat→Option (List Pt))(T:List (Nat×TI))(total:Nat):Nat→List (Nat×Nat)→Option (List Pt)
 | off,[]=>match Nat.beq off total with|true=>some []|false=>none
 | off,(o,t)::r=>match Nat.beq o off,rec t,look T t with
  | true,some ps,some ti=>match Nat.beq ps.length ti.sz,flatFs rec T total (off+ti.sz) r with
   | true,some qs=>some (ps++qs)
   | _,_=>none
  | _,_,_=>none
def repP:Nat→List Pt→List Pt
 | 0,_=>[]
 | n+1,l=>l++repP n l
def isStr(P:Program)(t:Nat):Bool:=match P.underlying t with|some .string=>true|_=>false
def oJ(P:Program)(T:List (Nat×TI)):Nat→Nat→Option (List Pt)
 | 0,_=>none
 | d+1,t=>match look T t with
  | none=>none
  | some ti=>match ti.k with
   | .int k=>some [.int k]
   | .bool=>some [.bool]
   | .sl e=>match oJ P T d e,look T e with
    | some ps,some ei=>match Nat.beq ps.length ei.sz,ei.sz,ps.all flatPt with
     | true,k+1,true=>some [.sl (k+1) ps]
     | _,_,_=>none
    | _,_=>none
   | .struct fs=>flatFs (oJ P T d) T ti.sz 0 fs
   | .arr n e=>match oJ P T d e,look T e with
    | some ps,some ei=>match Nat.beq ps.length ei.sz,Nat.beq (n*ei.sz) ti.sz with
     | true,true=>some (repP n ps)
     | _,_=>none
    | _,_=>none
   | .prim=>match isStr P t with|true=>some [.any]|false=>none
   | .mp _ _=>none
   | .ptr=>none
def aggT(T:List (Nat×TI))(t:Nat):Bool:=match look T t with|some ti=>gR ti.k|none=>false
def argP(P:Program)(T:List (Nat×TI))(t:Nat):Option Pt:=match oJ P T 10 t with
 | none=>none
 | some ps=>match aggT T t with
  | true=>some (.agg ps)
  | false=>match ps with|[p]=>some p|_=>none
def argPs(P:Program)(T:List (Nat×TI)):List Nat→Option (List Pt)
 | []=>some []
 | t::r=>match argP P T t,argPs P T r with|some p,some q=>some (p::q)|_,_=>none
section
variable {PP:Program}{C:Cx PP}{H:Type}{enc:TypeId×Value→H}{W:World}{sp:Nat→Bool}{held:Bool}
theorem gJ{t:Nat}{ti:TI}(h:look C.T t=some ti):C.P.cellsOf t=ti.sz:=by
 obtain⟨i,d,z,h1,h2,h3,-⟩:=(C.ty h).ex
 simp[Program.cellsOf,h1,h3]
theorem kS{t:Nat}{ti:TI}(h:look C.T t=some ti):∃d,C.P.underlying t=some d∧bj d ti.k=true:=by
 obtain⟨i,d,z,h1,h2,h3,h4,h5,h6,-⟩:=(C.ty h).ex
 exact⟨d,h2,h6⟩
theorem desc_int{d:TypeDesc}{k:IntKind}(h:bj d (.int k)=true):d=.int k:=by
 cases d with
 | int k'=>obtain rfl:k'=k:=Od h;rfl
 | _=>first|cases h|(simp[bj] at h)
theorem desc_bool{d:TypeDesc}(h:bj d .bool=true):d=.bool:=by
 cases d with
 | bool=>rfl
 | _=>first|cases h|(simp[bj] at h)
theorem desc_sl{d:TypeDesc}{e:Nat}(h:bj d (.sl e)=true):d=.slice e:=by
 cases d with
 | slice e'=>obtain rfl:e'=e:=eq_of_beq h;rfl
 | _=>first|cases h|(simp[bj] at h)
theorem kH{d:TypeDesc}{l:List (Nat×Nat)}(h:bj d (.struct l)=true):∃fs,d=.struct fs∧(fs.toList.map fun f=>(f.offset,f.type))=l:=by
 cases d with
 | struct fs=>exact⟨fs,rfl,eq_of_beq h⟩
 | _=>first|cases h|(simp[bj] at h)
theorem desc_arr{d:TypeDesc}{n e:Nat}(h:bj d (.arr n e)=true):d=.array n e:=by
 cases d with
 | array n' e'=>
  simp only[bj,Bool.and_eq_true,beq_iff_eq] at h
  rw[h.1,h.2]
 | _=>first|cases h|(simp[bj] at h)
theorem fs_fit{rec:Nat→Option (List Pt)}{m total:Nat}(hrec:∀t ps,rec t=some ps→∀cs (x:DataW H×List MemPlace),DataW.trod enc C.P W 0 sp held m t cs=some x→∃l,ir ps l∧aj (zW W) l cs){cs:List Value}(hcs:cs.length=total) :
  ∀(fs:List Field) (off:Nat) (ps:List Pt),flatFs rec C.T total off (fs.map fun f=>(f.offset,f.type))=some ps→(∀f∈fs,∃x:DataW H×List MemPlace,DataW.trod enc C.P W 0 sp held m f.type ((cs.drop f.offset).take (C.P.cellsOf f.type))=some x)→
   ∃l,ir ps l∧aj (zW W) l (cs.drop off)
 | [],off,ps,h,_=>by
  simp only[List.map_nil,flatFs] at h
  split at h
  ·rename_i hb
   obtain rfl:=Oi h
   have:=Nb hb
   exact⟨[],trivial,by rw[List.drop_of_length_le (by omega)];rfl⟩
  ·cases h
 | f::r,off,ps,h,hf=>by
  simp only[List.map_cons,flatFs] at h
  split at h
  ·rename_i p ti hb hp hti
   split at h
   ·rename_i q hb2 hq
    obtain rfl:=Oi h
    obtain rfl:=Nb hb
    have hpl:=Nb hb2
    obtain⟨x,hx⟩:=hf f List.mem_cons_self
    rw[gJ hti] at hx
    obtain⟨l1,k1,k2⟩:=hrec _ _ hp _ _ hx
    obtain⟨l2,k3,k4⟩:=fs_fit hrec hcs r _ _ hq fun g hg=>hf g (List.mem_cons_of_mem _ hg)
    refine⟨l1++l2,oM k1 k3,?_⟩
    have e:cs.drop f.offset=(cs.drop f.offset).take ti.sz++cs.drop (f.offset+ti.sz):=by
     rw[←List.drop_drop,List.take_append_drop]
    rw[e]
    exact aZ k2 k4
   ·cases h
  ·cases h
theorem arr_fit{ps:List Pt}{sz:Nat}{cs:List Value}{f:Nat→List Value} : ∀(n i:Nat),(∀j,j<n→∃l,ir ps l∧aj (zW W) l ((cs.drop ((i+j)*sz)).take sz))→cs.length=(i+n)*sz→∃l,ir (repP n ps) l∧aj (zW W) l (cs.drop (i*sz))
 | 0,i,_,hl=>⟨[],trivial,by rw[List.drop_of_length_le (by rw[hl];simp)];rfl⟩
 | n+1,i,h,hl=>by
  obtain⟨l1,k1,k2⟩:=h 0 (by omega)
  obtain⟨l2,k3,k4⟩:=arr_fit (f:=f) n (i+1) (fun j hj=>by have:=h (j+1) (by omega);rwa [show i+(j+1)=i+1+j by omega] at this) (by rw[hl];congr 1;omega)
  refine⟨l1++l2,oM k1 k3,?_⟩
  have e:cs.drop (i*sz)=(cs.drop (i*sz)).take sz++cs.drop ((i+1)*sz):=by
   rw[Nat.succ_mul,←List.drop_drop,List.take_append_drop]
  rw[e]
  exact aZ k2 k4
theorem mD:∀(d t:Nat) (ps:List Pt),oJ C.P C.T d t=some ps→∀(fuel:Nat) (cs:List Value) (x:DataW H×List MemPlace),DataW.trod enc C.P W 0 sp held fuel t cs=some x→∃l,ir ps l∧aj (zW W) l cs
 | 0,t,ps,h,_,_,_,_=>by cases h
 | d+1,t,ps,h,fuel,cs,x,hx=>by
  simp only[oJ] at h
  split at h
  ·cases h
  rename_i ti hti
  obtain⟨dd,hu,hk⟩:=kS hti
  split at h
  ·rename_i k hki
   rw[hki] at hk
   obtain rfl:=desc_int hk
   obtain rfl:=Oi h
   obtain⟨n,rfl,-,hw⟩:=DataW.trod_int hu hx
   simp only[Lit.wf,Bool.and_eq_true,decide_eq_true_eq] at hw
   exact⟨[.v (.int k n)],⟨⟨rfl,hw⟩,trivial⟩,aM rfl rfl⟩
  ·rename_i hki
   rw[hki] at hk
   obtain rfl:=desc_bool hk
   obtain rfl:=Oi h
   obtain⟨b,rfl,-⟩:=DataW.trod_bool hu hx
   exact⟨[.v (.bool b)],⟨trivial,trivial⟩,aM rfl rfl⟩
  ·rename_i e hki
   rw[hki] at hk
   obtain rfl:=desc_sl hk
   split at h
   ·rename_i ps' ei hps hei
    split at h
    ·rename_i k hb hsz hfl
     obtain rfl:=Oi h
     have hpl:=Nb hb
     have hes:C.P.cellsOf e=k+1:=(gJ hei).trans hsz
     rcases Go.Deep.open_slice hu hx with ⟨rfl,-⟩|⟨a,len,cap,m,n,D,Pl,rfl,hba,hl,hmx,hm,-,hel⟩
     ·exact⟨[.rs (k+1) 0 fun _=>[]],⟨⟨rfl,Nat.zero_le _,fun i hi=>absurd hi (Nat.not_lt_zero _)⟩,trivial⟩,aM ⟨none,0,rfl,Nat.le_refl _,fun i hi=>absurd hi (Nat.not_lt_zero _)⟩ rfl⟩
     ·have hlm:len≤m:=by rw[hm];split<;>omega
      have key:∀i,i<len→∃l:List SV,ir ps' l∧∃b o u,a=(⟨b,o,none⟩:Addr)∧aj (zW W).zo l u∧u.length=k+1∧∀q c,u[q]? = some c→W.cell? ⟨b,o+i*(k+1)+q,none⟩=some c∧c.oneCell'=true:=by
       intro i hi
       obtain⟨cs',c1,c2⟩:=hel i (by omega)
       rw[hes] at c1
       obtain⟨q0,q1,q2⟩:=World.cells?_some c1
       obtain⟨l,k1,k2⟩:=mD d e ps' hps _ _ _ c2
       have hspot:∀j,j<k+1→∃c,W.cell? (({block:=a.block,off:=a.off+i*(k+1)+j,spot:=a.spot} : Addr))=some c∨a.spot=none:=by
        intro j hj
        by_cases hsp:a.spot=none
        ·exact⟨undef,.inr hsp⟩
        ·exact⟨undef,.inr (by
          exfalso
          have h0:=hel 0 (by omega)
          obtain⟨cs0,d1,d2⟩:=h0
          rw[hes] at d1
          obtain⟨-,e1,e2⟩:=World.cells?_some d1
          have:=e2 0 (by omega)
          have e3:cs0[0]? = some (cs0[0]'(by omega)):=List.getElem?_eq_getElem (by omega)
          rw[e3] at this
          simp[Addr.add,World.cell?] at this
          split at this
          ·split at this
           ·cases this
           ·rename_i hns
            apply hsp
            cases hs:a.spot with
            | none=>rfl
            | some _=>rw[hs] at hns;simp at hns
          ·cases this)⟩
       have hno:a.spot=none:=by
        obtain⟨c,h1|h1⟩:=hspot 0 (by omega)
        ·cases hs:a.spot with
         | none=>rfl
         | some _=>
          rw[hs] at h1
          simp[World.cell?] at h1
          split at h1<;>cases h1
        ·exact h1
       obtain⟨b,o,s⟩:=a
       obtain rfl:s=none:=hno
       refine⟨l,k1,b,o,cs',rfl,k2,q1,fun q c hc=>?_⟩
       have hql:q<k+1:=by rw[←q1];exact(List.getElem?_eq_some_iff.1 hc).1
       have:=q2 q hql
       refine⟨?_,fitL_one k1 hfl k2 c (List.mem_of_getElem? hc)⟩
       rw[hc] at this
       rw[←this]
       simp only[Addr.add]
       congr 1
       split<;>split<;>simp_all [Nat.add_assoc]
      obtain⟨f,hf⟩:=Go.Deep.choose_lt key
      exact⟨[.rs (k+1) len f],⟨⟨rfl,Nat.le_trans hl hmx,fun i hi=>(hf i hi).1⟩,trivial⟩,aM ⟨some a,cap,rfl,hl,fun i hi=>let ⟨_,b,o,u,e1,e2,e3,e4⟩:=hf i hi;⟨b,o,u,by rw[e1],e2,e3,e4⟩⟩ rfl⟩
    ·cases h
   ·cases h
  ·rename_i fs hki
   rw[hki] at hk
   obtain⟨fa,rfl,hfa⟩:=kH hk
   obtain⟨xs,m,rfl,-,hlen,hxl,hg⟩:=DataW.trod_struct hu hx
   rw[gJ hti] at hlen
   rw[←hfa] at h
   obtain⟨l,k1,k2⟩:=fs_fit (fun t ps hp cs x hx=>mD d t ps hp m cs x hx) hlen fa.toList 0 ps h fun f hf=>by
    obtain⟨i,hi,he⟩:=List.mem_iff_getElem.1 hf
    have hi':i<fa.size:=by simpa using hi
    have h1:=hg i f (by rw[Array.getElem?_eq_getElem hi'];simpa using congrArg some he)
    exact⟨xs[i]'(by omega),by rw[h1,List.getElem?_eq_getElem]⟩
   exact⟨l,k1,k2⟩
  ·rename_i n e hki
   rw[hki] at hk
   obtain rfl:=desc_arr hk
   split at h
   ·rename_i ps' ei hps hei
    split at h
    ·rename_i hb1 hb2
     obtain rfl:=Oi h
     have hb2:=Nb hb2
     obtain⟨xs,m,rfl,-,hlen,hxl,hg⟩:=DataW.trod_array hu hx
     rw[gJ hti,←hb2] at hlen
     rw[gJ hei] at hg
     obtain⟨l,k1,k2⟩:=arr_fit (f:=fun _=>[]) (ps:=ps') (sz:=ei.sz) (cs:=cs) (W:=W) n 0 (fun j hj=>by
      have:=hg j hj
      rw[Nat.zero_add]
      rw[List.getElem?_eq_getElem (by omega)] at this
      exact mD d e ps' hps m _ _ this) (by rw[Nat.zero_add];exact hlen)
     exact⟨l,k1,by simpa using k2⟩
    ·cases h
   ·cases h
  ·rename_i hki
   split at h
   ·rename_i hs
    obtain rfl:=Oi h
    have hstr:C.P.underlying t=some .string:=by
     unfold isStr at hs
     split at hs
     ·assumption
     ·cases hs
    obtain⟨s,rfl,-,-⟩:=DataW.trod_string hstr hx
    exact⟨[.v (.string s)],⟨trivial,trivial⟩,aM rfl rfl⟩
   ·cases h
  ·cases h
  ·cases h
theorem arg_fit{t:Nat}{p:Pt}(h:argP C.P C.T t=some p){v:Value}{d:DataW H}{ps:List MemPlace}{r:Reach}{b0:Nat}(hv:Value.okWide C.P W r b0 t v)(ht:DataW.Trod enc C.P W 0 sp held t v d ps):∃x,Fit p x∧den (zW W) x v:=by
 unfold argP at h
 split at h
 ·cases h
 rename_i l hl
 obtain⟨fuel,hf⟩:=ht
 obtain⟨y,h1,h2⟩:=mD 10 t l hl _ _ _ hf
 split at h
 ·rename_i hag
  obtain rfl:=Oi h
  unfold aggT at hag
  split at hag
  ·rename_i ti hti
   obtain⟨dd,hu,hk⟩:=kS hti
   have:∃cs,v=.agg cs:=by
    cases htk:ti.k with
    | struct fs=>
     rw[htk] at hk
     obtain⟨fa,rfl,-⟩:=kH hk
     simp only[Value.okWide,hu] at hv
     exact⟨_,hv.choose_spec.1⟩
    | arr n e=>
     rw[htk] at hk
     obtain rfl:=desc_arr hk
     simp only[Value.okWide,hu] at hv
     exact⟨_,hv.choose_spec.1⟩
    | _=>rw[htk] at hag;cases hag
   obtain⟨cs,rfl⟩:=this
   exact⟨.agg y,h1,cs.toList,by simpa[Value.cells] using h2,by simp⟩
  ·cases hag
 ·rename_i hag
  split at h
  ·rename_i p'
   obtain rfl:=Oi h
   match y,h1 with
   | [x],h1=>
    obtain⟨a,b,e1,e2,e3⟩:=aG h2
    obtain rfl:=ca e3
    have hv1:∀cs,v≠.agg cs:=by
     intro cs hc
     subst hc
     have hfl:∀(d:Nat),oJ C.P C.T d t=some [p']→False:=by
      intro d hd
      cases d with
      | zero=>cases hd
      | succ d=>
       simp only[oJ] at hd
       split at hd
       ·cases hd
       ·rename_i ti hti
        obtain⟨dd,hu,hk⟩:=kS hti
        have hag':gR ti.k=false:=by
         unfold aggT at hag
         rw[hti] at hag
         exact hag
        cases htk:ti.k with
        | int k=>rw[htk] at hk;obtain rfl:=desc_int hk;simp[Value.okWide,hu,Cell.okWide,Cell.ok] at hv
        | bool=>rw[htk] at hk;obtain rfl:=desc_bool hk;simp[Value.okWide,hu,Cell.okWide,Cell.ok] at hv
        | sl e=>rw[htk] at hk;obtain rfl:=desc_sl hk;simp[Value.okWide,hu,Cell.okWide,Cell.ok] at hv
        | prim=>
         rw[htk] at hd
         simp only at hd
         split at hd
         ·rename_i hs
          have hstr:C.P.underlying t=some .string:=by
           unfold isStr at hs
           split at hs
           ·assumption
           ·cases hs
          simp[Value.okWide,hstr,Cell.okWide,Cell.ok] at hv
         ·cases hd
        | mp _ _=>rw[htk] at hd;cases hd
        | ptr=>rw[htk] at hd;cases hd
        | struct fs=>rw[htk] at hag';cases hag'
        | arr n e=>rw[htk] at hag';cases hag'
     exact hfl 10 hl
    refine⟨x,h1.1,?_⟩
    have:v.cells.toList=[v]:=by
     cases v<;>first|rfl|exact absurd rfl (hv1 _)|skip
     all_goals simp[Value.cells]
    rw[this] at e1
    obtain rfl:v=a:=by injection e1
    exact e2
  ·cases h
end
end Go.Proofs.YtgigkennhdolpaaGreatDoor
namespace Go.Proofs.YtgigkennhdolpaaGreatDoor
open Go.ChangeShapes Go.WideShapes Go.ChangeAt Go.RowKit
theorem lF{H:Type}{enc:TypeId×Value→H}{P:Program}(hl:laidOutB P=true){W W':World}(hb:Below W.heap.size W W'){sp:Nat→Bool} :
  ∀{ts:List TypeId} {vs:List Value} {ds:List (DataW H)} {ps:List MemPlace},(ts.all fun t=>P.readableRec t&&decide (t<P.types.size))=true→
   DataW.TrodAll enc P W 0 (fun _=>true) true ts vs ds ps→(∀x∈ps,x.block<W.heap.size)→(∀p∈ps,sp p.block=true)→DataW.TrodAll enc P W' 0 sp true ts vs ds ps
 | [],vs,ds,ps,_,h,_,_=>by
  obtain⟨rfl,rfl,rfl⟩:=trodAll_nil h
  exact trodAll_mk0
 | t::ts,vs,ds,ps,hr,h,hlt,hs=>by
  obtain⟨v,vs',d,ds',p,q,rfl,rfl,rfl,h1,h2⟩:=trodAll_cons h
  rw[List.all_cons,Bool.and_eq_true,Bool.and_eq_true] at hr
  exact trodAll_cons_mk (WideElems.Trod_stays hl hr.1.1 (Od hr.1.2) h1 (fun x hx=>hb.same (hlt x (List.mem_append.2 (.inl hx)))) (fun x hx=>hs x (List.mem_append.2 (.inl hx))))
   (lF hl hb hr.2 h2 (fun x hx=>hlt x (List.mem_append.2 (.inr hx))) (fun x hx=>hs x (List.mem_append.2 (.inr hx))))
theorem law_post{H:Type}{enc:TypeId×Value→H}{P:Program}(hl:laidOutB P=true){f:Func}{s:ChangeSpec}{W W':World}{args:Array Value}{ds gs:List (DataW H)}{before:List MemPlace}{tb:TypeId}
  (hr:(f.params.toList.all fun t=>P.readableRec t&&decide (t<P.types.size))=true) (hres:f.resultTypes=#[tb]) (htb:P.underlying tb=some .bool) (hvars:s.vars=[])
  (hfn:(s.fn H ds).results=[.lit (.bool true)]∧(s.fn H ds).args=ds∧(s.fn H ds).vars=[])
  (hW:DataW.Whole enc P f.params.toList s.vars false W args.toList ds gs before) (hg:Gr W W') :
  s.post enc P f false true false false W args (.bool true) W':=by
 have hW':=hW
 obtain⟨p,q,hA,hV,rfl,hfz,hnd⟩:=hW
 rw[hvars] at hV
 obtain⟨rfl,rfl⟩:=trodVars_none hV
 have hlt:∀x∈p,x.block<W.heap.size:=fun x hx=>hW'.lt x (List.mem_append.2 (.inl hx))
 refine⟨ds,[],p++[],[],p,[],hW',?_,?_,?_,Below.frame hg _,fun h=>by cases h⟩
 ·rw[List.append_nil,hfn.1,hres]
  exact trodAll_mk1 (shut_bool htb true)
 ·rw[List.append_nil,hfn.2.1]
  exact lF hl hg hr hA hlt (fun x hx=>by simpa using hlt x hx)
 ·rw[List.append_nil,hfn.2.2,hvars]
  rfl
theorem own:ownKnob Tryz.prog.godebug=none:=by kernel_rfl
theorem laidOutProg:laidOutB Tryz.prog=true:=by kernel_rfl
end Go.Proofs.YtgigkennhdolpaaGreatDoor
