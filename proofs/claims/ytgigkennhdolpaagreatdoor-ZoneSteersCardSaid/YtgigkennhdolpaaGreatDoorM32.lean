/- zone.comp, step.first in lists of one's own: which element. compare, root, order. The contract of order. Small functions: between, Valid, Bounds, Has, inside, short. -/
import Derived.Test.YtgigkennhdolpaaGreatDoorM22
import Derived.Test.YtgigkennhdolpaaGreatDoorM31
import Derived.Test.YtgigkennhdolpaaGreatDoorM21
namespace Go.Proofs.YtgigkennhdolpaaGreatDoor
open Go.Conc Go.RowKit
set_option maxRecDepth 8000
set_option maxHeartbeats 2000000
def fw(f:Nat→List SV)(i:Nat):Int:=(hdS (f i)).iv
def ixK(f:Nat→List SV)(n:Nat)(q:Int):Nat:=ixN (fun i=>decide (fw f i=q)) 0 n
def outG(b:Bool)(i:Nat):SV:=match b with|true=>.gp 0 0 5 i 0|false=>.v (.pointer none)
theorem ixN_lt{g:Nat→Bool}{r k:Nat} : ixN g k r≤k+r:=ixN_le.2
def rawF(n:Nat)(f:Nat→List SV)(u:List Value):Nat→List SV:=fun i=>bif Nat.blt i n then f i else((u.drop (i*5)).take 5).map SV.v
theorem jC{n:Nat}{f:Nat→List SV}{u:List Value}{i:Nat}(h:i<n):rawF n f u i=f i:=by
 unfold rawF
 rw[show Nat.blt i n=true from Nat.ble_eq_true_of_le h];rfl
theorem rawF_hi{n:Nat}{f:Nat→List SV}{u:List Value}{i:Nat}(h:n≤i):rawF n f u i=((u.drop (i*5)).take 5).map SV.v:=by
 unfold rawF
 rw[show Nat.blt i n=false by cases e:Nat.blt i n;rfl;exact absurd (Nat.le_of_ble_eq_true e) (by omega)];rfl
theorem nL{g g':Nat→Bool} : ∀{r k:Nat},(∀i,k≤i→i<k+r→g i=g' i)→ixN g k r=ixN g' k r
 | 0,k,_=>rfl
 | r+1,k,h=>by
  simp only[ixN]
  rw[h k (Nat.le_refl _) (by omega),nL (r:=r) (k:=k+1) fun i h1 h2=>h i (by omega) (by omega)]
theorem ixK_raw{n:Nat}{f:Nat→List SV}{u:List Value}{q:Int} : ixK (rawF n f u) n q=ixK f n q:=nL fun i _ h=>by
 show decide (fw (rawF n f u) i=q)=decide (fw f i=q)
 unfold fw
 rw[jC (by omega)]
theorem comp_den{ρ ρ':Names}{c:aJ}{us us':List Value}(h:aj ρ c.cells us)(h':aj ρ' c.cells us'):us=us':=by
 obtain⟨_,_,rfl,rfl,_,_,rfl,rfl,_,_,rfl,rfl,_,_,rfl,rfl,_,_,rfl,rfl,rfl⟩:=h
 obtain⟨_,_,rfl,rfl,_,_,rfl,rfl,_,_,rfl,rfl,_,_,rfl,rfl,_,_,rfl,rfl,rfl⟩:=h'
 rfl
theorem rows_eq{u u':List Value}{n:Nat}(h1:u.length=n*5)(h2:u'.length=n*5)(h:∀i,i<n→∀k,k<5→u'[i*5+k]? = u[i*5+k]?):u'=u:=by
 refine List.ext_getElem? fun j=>?_
 by_cases hj:j<n*5
 ·have:=h (j/5) (by omega) (j%5) (by omega)
  rwa [show j/5*5+j%5=j by omega] at this
 ·rw[List.getElem?_eq_none (by omega),List.getElem?_eq_none (by omega)]
def firV(a:Option Addr)(n ix:Nat):Value:=if ix<n then match a with|some ⟨b,_,_⟩=>.pointer (some ⟨b,ix*5+0,none⟩)|none=>.pointer none else .pointer none
noncomputable def fiA:FnI cx:=⟨132,Tryz.call132,Tryz.f132,Tryz.func132,[],[],[],0,by kernel_rfl⟩
set_option maxRecDepth 100000 in
theorem firstA_walk(n cap:Nat)(id q:Int)(f:Nat→List SV)(hf:∀i,i<n→∃c:aJ,f i=c.cells)(hn:(n:Int)≤cJ):ev (C:=cx) [conIxS] fiA.fn.ntmps 1 (ku (C:=cx) [conIxS] [] 0) (gF (C:=cx) []) aw (fN fiA.fn) ⟨cu 0 [.agg [.v (.int .i64 id),.g 0 0 5 0 n],.v (.int .u8 q)],[(0,.lst 0 5 cap f 46)],1,0,[],[]⟩ (endK cx fiA.fn.results.toList fun v H' _=>v=outG (decide (ixK f n q<n)) (ixK f n q)∧ck [(0,.lst 0 5 cap f 46)] H'):=by
 have hz:(fun i=>decide (fw (fun i=>f (0+i)) i=q))=fun i=>decide (fw f i=q):=funext fun i=>by
  show decide ((hdS (f (0+i))).iv=q)=_
  rw[Nat.zero_add];rfl
 have hle:ixK f n q≤n:=by have:=ixN_lt (g:=fun i=>decide (fw f i=q)) (k:=0) (r:=n);unfold ixK;omega
 refine Ai ⟨fun i hi=>?_,hn,⟨q,rfl⟩⟩ ?_
 ·obtain⟨c,hc⟩:=hf (0+i) (by omega)
  show aH (eF patC (f (0+i)))
  rw[hc];trivial
 have ei:∀x:Int,x=ixI (fun i=>decide (fw (fun i=>f (0+i)) i=q)) n→x=ixI (fun i=>decide (fw f i=q)) n:=fun x h=>by rw[h,hz]
 by_cases h:ixK f n q<n
 ·have e1:ixI (fun i=>decide (fw f i=q)) n=(ixK f n q:Nat):=kT rfl h
  refine Ai (fun hc=>?_) (fun hc=>?_)
  ·have hc:decide (ixI (fun i=>decide (fw (fun i=>f (0+i)) i=q)) n<0)=true:=hc
   rw[hz,e1] at hc
   have:=Od hc
   omega
  ·have e2:ixI (fun i=>decide (fw (fun i=>f (0+i)) i=q)) n=(ixK f n q:Nat):=by rw[hz];exact e1
   refine Ai (show 0≤ixI (fun i=>decide (fw (fun i=>f (0+i)) i=q)) n∧ixI (fun i=>decide (fw (fun i=>f (0+i)) i=q)) n<(n:Nat) by rw[e2];omega) ?_
   refine⟨?_,?_⟩
   ·show SV.gp 0 0 5 (0+(ixI (fun i=>decide (fw (fun i=>f (0+i)) i=q)) n).toNat) 0=outG _ _
    rw[e2,decide_eq_true h,Nat.zero_add];rfl
   ·exact ck.cons (ck.cons (ck.refl _) rfl) rfl
 ·have e1:ixI (fun i=>decide (fw f i=q)) n = -1:=km (show ixK f n q=n by omega)
  refine Ai (fun hc=>?_) (fun hc=>?_)
  ·refine⟨?_,?_⟩
   ·rw[decide_eq_false h];rfl
   ·exact ck.cons (ck.cons (ck.refl _) rfl) rfl
  ·have hc:decide (ixI (fun i=>decide (fw (fun i=>f (0+i)) i=q)) n<0)=false:=hc
   rw[hz,e1] at hc
   exact absurd hc (by decide)
set_option maxRecDepth 100000 in
theorem firstA_calls{ρ:Names}{W:World}{q:LV}{n:Nat}{f:Nat→List SV}{a':Option Addr}(hG:cx.Grd W)(hlow:∀b o,q.cap≠0→q.a=some ⟨b,o,none⟩→cx.gm≤b)(hl:dD ρ W q 5 f 46)(hn:n≤q.N)(hf:∀i,i<n→∃c:aJ,f i=c.cells)(hbig:(n:Int)≤cJ)(ha:q.cap≠0→∃b,q.a=some ⟨b,0,none⟩∧a'=some ⟨b,0,none⟩)(id kd:Int) :
  bP Tryz.prog false 132 #[.agg #[.int .i64 id,.slice a' n q.cap],.int .u8 kd] W fun e W'=>e=.returned (firV q.a n (ixK f n kd))∧Gr W W':=by
 obtain⟨u,hu⟩:∃u:List Value,q.cap≠0→∃b,q.a=some ⟨b,0,none⟩∧Blk W b u.toArray 46∧u.length=q.cap*5∧(∀c∈u,c.oneCell'=true)∧∀i,i<q.N→∃us,aj ρ.zo (f i) us∧us.length=5∧∀k c,us[k]? = some c→u[i*5+k]? = some c:=by
  by_cases hc:q.cap=0
  ·exact⟨[],fun h=>absurd hc h⟩
  ·obtain⟨b,u,h1,h2,h3,h4,-,h6⟩:=hl.2 hc
   exact⟨u,fun _=>⟨b,h1,h2,h3,h4,h6⟩⟩
 have hNc:=hl.1
 let q0:LV:=⟨0,q.a,q.cap,q.cap⟩
 let ρ0:Names:=⟨fun _=>none,fun e=>if e=0 then some q0 else none,fun _ _=>none,fun _ _ _=>False,[],fun _=>False⟩
 have v0:∀e l,ρ0.v e=some l→e=0∧l=q0:=fun e l h=>by
  by_cases he:e=0
  ·simp only[ρ0,if_pos he] at h;exact⟨he,(Oi h).symm⟩
  ·simp only[ρ0,if_neg he] at h;cases h
 have ow:∀m b,bX ρ0 m b→m=0∧q.cap≠0∧∃o,q.a=some ⟨b,o,none⟩:=fun m b h=>by
  rcases h with h|⟨e,l,o,h1,h2,h3,h4⟩|⟨i,l,o,h,-⟩
  ·cases h
  ·obtain⟨-,rfl⟩:=v0 e l h1
   exact⟨h2.symm,h3,o,h4⟩
  ·cases h
 have hok:HOk cx [(0,.lst 0 5 q.cap (rawF n f u) 46)] ρ0 W:=by
  refine⟨⟨fun m m' b h h'=>by rw[(ow m b h).1,(ow m' b h').1],fun m b h=>?_,fun b i c h=>h.elim,hG⟩,fun m sb hm=>?_⟩
  ·obtain⟨-,hc,o,ho⟩:=ow m b h
   obtain⟨b',h1,h2,-⟩:=hu hc
   rw[h1] at ho
   injection ho with ho
   injection ho with ho
   subst ho
   exact⟨hlow b' 0 hc h1,(Array.getElem?_eq_some_iff.1 (show W.heap[b']? = _ from h2)).1⟩
  ·by_cases e:0=m
   ·subst e
    obtain rfl:=Oi (show some _=some sb from hm)
    refine⟨q0,by simp[ρ0],rfl,rfl,Nat.le_refl _,fun hc=>?_⟩
    obtain⟨b,h1,h2,h3,h4,h5⟩:=hu hc
    refine⟨b,u,h1,h2,h3,h4,fun _ _ h=>h,fun i hi=>?_⟩
    by_cases hin:i<n
    ·rw[jC hin]
     obtain⟨c,hcc⟩:=hf i hin
     obtain⟨us,k1,k2,k3⟩:=h5 i (by omega)
     rw[hcc] at k1 ⊢
     refine⟨us,?_,k2,k3⟩
     obtain⟨_,_,rfl,rfl,_,_,rfl,rfl,_,_,rfl,rfl,_,_,rfl,rfl,_,_,rfl,rfl,rfl⟩:=k1
     exact⟨_,_,rfl,rfl,_,_,rfl,rfl,_,_,rfl,rfl,_,_,rfl,rfl,_,_,rfl,rfl,rfl⟩
    ·rw[rawF_hi (by omega)]
     have hi':i<q.cap:=hi
     refine⟨_,lf _,by simp;omega,fun k c hk=>?_⟩
     rw[List.getElem?_take] at hk
     split at hk
     ·rwa [List.getElem?_drop] at hk
     ·cases hk
   ·rw[ae _ _ e] at hm;cases hm
 have hargs:aj ρ0 [.agg [.v (.int .i64 id),.g 0 0 5 0 n],.v (.int .u8 kd)] [.agg #[.int .i64 id,.slice a' n q.cap],.int .u8 kd]:=
  ⟨_,_,rfl,⟨_,⟨_,_,rfl,rfl,_,_,rfl,⟨q0,by simp[ρ0],rfl,by show 0+n≤q.cap;omega,Nat.le_refl _,a',rfl,fun hc=>by
   obtain⟨b,h1,h2⟩:=ha (by simpa[q0] using hc)
   exact⟨b,h1,by rw[h2]⟩⟩,rfl⟩,rfl⟩,_,_,rfl,rfl,rfl⟩
 refine(fM (C:=cx) (Γ:=[conIxS]) (w0:=W) (ρe:=ρ0) aw (dH follows 0) follows fiA.hf (code:=fN fiA.fn) (by kernel_rfl) (by kernel_rfl) (by kernel_rfl) hok (fun _ _ h=>by cases h) (fun e l h=>by obtain⟨rfl,rfl⟩:=v0 e l h;exact⟨Nat.zero_lt_one,Nat.zero_lt_one⟩) (fun _ _ _ h=>by cases h) hargs _
  (firstA_walk n q.cap id kd (rawF n f u) (fun i hi=>by rw[jC hi];exact hf i hi) hbig)).mono ?_
 rintro e W' ⟨v,val,H',nm',ρ',rfl,⟨rfl,hle⟩,hm,hc,hd⟩
 rw[ixK_raw] at hd
 have hv0:ρ'.v 0=some q0:=hm.le.v 0 q0 (by simp[ρ0,Names.noD])
 have hgr:Gr W W':=by
  refine⟨hm.keep.os,hm.keep.tape,hm.keep.output,hm.keep.size,fun x hx=>?_⟩
  by_cases hx':q.cap≠0∧∃o,q.a=some ⟨x,o,none⟩
  ·obtain⟨hcap,o,ho⟩:=hx'
   obtain⟨b,h1,h2,h3,h4,h5⟩:=hu hcap
   obtain⟨l,k1,-,-,-,k5⟩:=hc 0 _ (hle 0 _ rfl)
   obtain rfl:q0=l:=Oi (hv0.symm.trans k1)
   obtain⟨b',u',j1,j2,j3,-,-,j6⟩:=k5 hcap
   have e1:b=b':=by
    have:=h1.symm.trans j1
    injection this with this
    injection this
   have e2:x=b:=by
    have:=ho.symm.trans h1
    injection this with this
    injection this
   subst e1 e2
   have hue:u'=u:=rows_eq h3 j3 fun i hi k hk=>by
    obtain⟨us',p1,p2,p3⟩:=j6 i hi
    have hk':us'[k]? = some us'[k]:=List.getElem?_eq_getElem (by omega)
    have r1:=p3 k _ hk'
    rw[r1]
    by_cases hin:i<n
    ·rw[jC hin] at p1
     obtain⟨c,hcc⟩:=hf i hin
     obtain⟨us,s1,s2,s3⟩:=h5 i (by omega)
     rw[hcc] at p1 s1
     obtain rfl:=comp_den s1 p1
     exact(s3 k _ hk').symm
    ·rw[rawF_hi (by omega)] at p1
     obtain rfl:=m6 p1
     rw[←hk',List.getElem?_take,if_pos hk,List.getElem?_drop]
   subst hue
   exact(show W'.heap[x]? = _ from j2).trans (show W.heap[x]? = _ from h2).symm
  ·refine hm.keep.block x hx fun hmn=>hx' ?_
   rcases hmn with ⟨m,ho⟩|ho
   ·exact(ow m x ho).2
   ·exact ho.elim
 refine⟨?_,hgr⟩
 unfold firV
 by_cases h:ixK f n kd<n
 ·rw[decide_eq_true h] at hd
  obtain⟨l,b,d1,d2,d3,d4,d5,rfl⟩:=hd
  obtain rfl:q0=l:=Oi (hv0.symm.trans d1)
  have d5:q.a=some ⟨b,0,none⟩:=d5
  rw[if_pos h,d5]
 ·rw[decide_eq_false h] at hd
  obtain rfl:val=_:=hd
  rw[if_neg h]
theorem Fc1B_walk:∀a,aK ((fun a=>[∃q,a.2=.rp [.v (.int .u8 q)] 0]) a)→aX (C:=cx) [] [] 0 aw Tryz.f94 ((aV gz rdX).enc a) fun v H _=>ai ((fun a=>.v (.bool (decide (a.1.kind=rkI a.2)))) a) H v:=by
 intro⟨c,x⟩ hx
 obtain⟨q,hx⟩:∃q,x=.rp [.v (.int .u8 q)] 0:=hx
 subst hx
 exact rfl
noncomputable def conFc1B:Con cx:=ah 94 Tryz.call94 (aV gz rdX) _ _ (fun _=>aw) [] (fun _=>rfl) follows Tryz.func94 (by kernel_rfl) Fc1B_walk
def ixcIxSB(l:Cms)(q:Int):Cut:=⟨Nat,fun k=>k≤l.n∧ixN (fun i=>decide ((l.c i).kind=q)) 0 l.n=ixN (fun i=>decide ((l.c i).kind=q)) k (l.n-k),
 fun k=>⟨[sl 0 l.sv,sl 1 (.f (.func 94) [] [.rp [.v (.int .u8 q)] 0]),sl 7 (i64 l.n),sl 8 (i64 k)],[],0,0,[],[]⟩,fun k=>l.n-k⟩
theorem IxSB_walk:∀a,aK ((fun a=>[(a.1.n:Int)≤cJ,∃q,a.2=(.f (.func 94) [] [.rp [.v (.int .u8 q)] 0])]) a)→aX (C:=cx) [conFc1B] [] 0 ⟨[],[],[2],0⟩ Tryz.f93 ((aV gE rdX).enc a) fun v H _=>ai ((fun a=>.v (.int .i64 (ixI (fun i=>decide ((a.1.c i).kind=kxI a.2)) a.1.n))) a) H v:=by
 intro⟨l,x⟩ ⟨hm,hx⟩
 obtain⟨q,hx⟩:∃q,x=(.f (.func 94) [] [.rp [.v (.int .u8 q)] 0]):=hx
 subst hx
 replace hm:(l.n:Int)≤9223372036854775807:=hm
 refine Exists.intro (ixcIxSB l q) ?_
 refine Ai ?_ ?_
 ·refine⟨(0:Nat),[],[],trivial,⟨Nat.zero_le _,rfl⟩,?_⟩
  repeat' (first|(refine Ai ?_ ?_)|(intro _)|exact rfl)
 refine fun(k:Nat) (hk:k≤l.n∧ixN (fun i=>decide ((l.c i).kind=q)) 0 l.n=ixN (fun i=>decide ((l.c i).kind=q)) k (l.n-k))=>?_
 obtain⟨k1,k2⟩:=hk
 refine Ai (fun hb=>?_) (fun hb=>?_)
 ·have hb:(k:Int)<l.n:=Od hb
  have e:=ixN_step (g:=(fun i=>decide ((l.c i).kind=q))) (k:=k) (n:=l.n) (by omega)
  refine Ai ⟨by omega,by omega⟩ ?_
  refine Ai ⟨q,rfl⟩ ?_
  refine Ai (fun hc=>?_) (fun hc=>?_)
  ·have hc:(decide ((l.c k).kind=q))=true:=hc
   simp only[hc] at e
   exact kT (g:=(fun i=>decide ((l.c i).kind=q))) (n:=l.n) (k2.trans e) (by omega)
  ·have hc:(decide ((l.c k).kind=q))=false:=hc
   simp only[hc] at e
   refine Ai (by unfold I64;omega:I64 ((k:Int)+1)) ?_
   refine⟨k+1,[],[],(by show l.n-(k+1)<l.n-k;omega),⟨by omega,by rw[k2,e]⟩,?_⟩
   repeat' (first|(refine Ai ?_ ?_)|(intro _)|exact rfl)
 ·have hb:¬(k:Int)<l.n:=of_decide_eq_false hb
  refine km (g:=(fun i=>decide ((l.c i).kind=q))) (n:=l.n) ?_
  rw[k2,show l.n-k=0 by omega]
  show k=l.n
  omega
noncomputable def conIxSB:Con cx:=ah 93 Tryz.call93 (aV gE rdX) _ _ (fun _=>⟨[],[],[2],0⟩) [] (fun _=>rfl) follows Tryz.func93 (by kernel_rfl) IxSB_walk
noncomputable def fiB:FnI cx:=⟨57,Tryz.call57,Tryz.f57,Tryz.func57,[],[],[],0,by kernel_rfl⟩
set_option maxRecDepth 100000 in
theorem firstB_walk(n cap:Nat)(id q:Int)(f:Nat→List SV)(hf:∀i,i<n→∃c:aJ,f i=c.cells)(hn:(n:Int)≤cJ):ev (C:=cx) [conIxSB] fiB.fn.ntmps 1 (ku (C:=cx) [conIxSB] [] 0) (gF (C:=cx) []) aw (fN fiB.fn) ⟨cu 0 [.agg [.v (.int .i64 id),.g 0 0 5 0 n],.v (.int .u8 q)],[(0,.lst 0 5 cap f 46)],1,0,[],[]⟩ (endK cx fiB.fn.results.toList fun v H' _=>v=outG (decide (ixK f n q<n)) (ixK f n q)∧ck [(0,.lst 0 5 cap f 46)] H'):=by
 have hz:(fun i=>decide (fw (fun i=>f (0+i)) i=q))=fun i=>decide (fw f i=q):=funext fun i=>by
  show decide ((hdS (f (0+i))).iv=q)=_
  rw[Nat.zero_add];rfl
 have hle:ixK f n q≤n:=by have:=ixN_lt (g:=fun i=>decide (fw f i=q)) (k:=0) (r:=n);unfold ixK;omega
 refine Ai ⟨fun i hi=>?_,hn,⟨q,rfl⟩⟩ ?_
 ·obtain⟨c,hc⟩:=hf (0+i) (by omega)
  show aH (eF patC (f (0+i)))
  rw[hc];trivial
 have ei:∀x:Int,x=ixI (fun i=>decide (fw (fun i=>f (0+i)) i=q)) n→x=ixI (fun i=>decide (fw f i=q)) n:=fun x h=>by rw[h,hz]
 by_cases h:ixK f n q<n
 ·have e1:ixI (fun i=>decide (fw f i=q)) n=(ixK f n q:Nat):=kT rfl h
  refine Ai (fun hc=>?_) (fun hc=>?_)
  ·have hc:decide (ixI (fun i=>decide (fw (fun i=>f (0+i)) i=q)) n<0)=true:=hc
   rw[hz,e1] at hc
   have:=Od hc
   omega
  ·have e2:ixI (fun i=>decide (fw (fun i=>f (0+i)) i=q)) n=(ixK f n q:Nat):=by rw[hz];exact e1
   refine Ai (show 0≤ixI (fun i=>decide (fw (fun i=>f (0+i)) i=q)) n∧ixI (fun i=>decide (fw (fun i=>f (0+i)) i=q)) n<(n:Nat) by rw[e2];omega) ?_
   refine⟨?_,?_⟩
   ·show SV.gp 0 0 5 (0+(ixI (fun i=>decide (fw (fun i=>f (0+i)) i=q)) n).toNat) 0=outG _ _
    rw[e2,decide_eq_true h,Nat.zero_add];rfl
   ·exact ck.cons (ck.cons (ck.refl _) rfl) rfl
 ·have e1:ixI (fun i=>decide (fw f i=q)) n = -1:=km (show ixK f n q=n by omega)
  refine Ai (fun hc=>?_) (fun hc=>?_)
  ·refine⟨?_,?_⟩
   ·rw[decide_eq_false h];rfl
   ·exact ck.cons (ck.cons (ck.refl _) rfl) rfl
  ·have hc:decide (ixI (fun i=>decide (fw (fun i=>f (0+i)) i=q)) n<0)=false:=hc
   rw[hz,e1] at hc
   exact absurd hc (by decide)
set_option maxRecDepth 100000 in
theorem firstB_calls{ρ:Names}{W:World}{q:LV}{n:Nat}{f:Nat→List SV}{a':Option Addr}(hG:cx.Grd W)(hlow:∀b o,q.cap≠0→q.a=some ⟨b,o,none⟩→cx.gm≤b)(hl:dD ρ W q 5 f 46)(hn:n≤q.N)(hf:∀i,i<n→∃c:aJ,f i=c.cells)(hbig:(n:Int)≤cJ)(ha:q.cap≠0→∃b,q.a=some ⟨b,0,none⟩∧a'=some ⟨b,0,none⟩)(id kd:Int) :
  bP Tryz.prog false 57 #[.agg #[.int .i64 id,.slice a' n q.cap],.int .u8 kd] W fun e W'=>e=.returned (firV q.a n (ixK f n kd))∧Gr W W':=by
 obtain⟨u,hu⟩:∃u:List Value,q.cap≠0→∃b,q.a=some ⟨b,0,none⟩∧Blk W b u.toArray 46∧u.length=q.cap*5∧(∀c∈u,c.oneCell'=true)∧∀i,i<q.N→∃us,aj ρ.zo (f i) us∧us.length=5∧∀k c,us[k]? = some c→u[i*5+k]? = some c:=by
  by_cases hc:q.cap=0
  ·exact⟨[],fun h=>absurd hc h⟩
  ·obtain⟨b,u,h1,h2,h3,h4,-,h6⟩:=hl.2 hc
   exact⟨u,fun _=>⟨b,h1,h2,h3,h4,h6⟩⟩
 have hNc:=hl.1
 let q0:LV:=⟨0,q.a,q.cap,q.cap⟩
 let ρ0:Names:=⟨fun _=>none,fun e=>if e=0 then some q0 else none,fun _ _=>none,fun _ _ _=>False,[],fun _=>False⟩
 have v0:∀e l,ρ0.v e=some l→e=0∧l=q0:=fun e l h=>by
  by_cases he:e=0
  ·simp only[ρ0,if_pos he] at h;exact⟨he,(Oi h).symm⟩
  ·simp only[ρ0,if_neg he] at h;cases h
 have ow:∀m b,bX ρ0 m b→m=0∧q.cap≠0∧∃o,q.a=some ⟨b,o,none⟩:=fun m b h=>by
  rcases h with h|⟨e,l,o,h1,h2,h3,h4⟩|⟨i,l,o,h,-⟩
  ·cases h
  ·obtain⟨-,rfl⟩:=v0 e l h1
   exact⟨h2.symm,h3,o,h4⟩
  ·cases h
 have hok:HOk cx [(0,.lst 0 5 q.cap (rawF n f u) 46)] ρ0 W:=by
  refine⟨⟨fun m m' b h h'=>by rw[(ow m b h).1,(ow m' b h').1],fun m b h=>?_,fun b i c h=>h.elim,hG⟩,fun m sb hm=>?_⟩
  ·obtain⟨-,hc,o,ho⟩:=ow m b h
   obtain⟨b',h1,h2,-⟩:=hu hc
   rw[h1] at ho
   injection ho with ho
   injection ho with ho
   subst ho
   exact⟨hlow b' 0 hc h1,(Array.getElem?_eq_some_iff.1 (show W.heap[b']? = _ from h2)).1⟩
  ·by_cases e:0=m
   ·subst e
    obtain rfl:=Oi (show some _=some sb from hm)
    refine⟨q0,by simp[ρ0],rfl,rfl,Nat.le_refl _,fun hc=>?_⟩
    obtain⟨b,h1,h2,h3,h4,h5⟩:=hu hc
    refine⟨b,u,h1,h2,h3,h4,fun _ _ h=>h,fun i hi=>?_⟩
    by_cases hin:i<n
    ·rw[jC hin]
     obtain⟨c,hcc⟩:=hf i hin
     obtain⟨us,k1,k2,k3⟩:=h5 i (by omega)
     rw[hcc] at k1 ⊢
     refine⟨us,?_,k2,k3⟩
     obtain⟨_,_,rfl,rfl,_,_,rfl,rfl,_,_,rfl,rfl,_,_,rfl,rfl,_,_,rfl,rfl,rfl⟩:=k1
     exact⟨_,_,rfl,rfl,_,_,rfl,rfl,_,_,rfl,rfl,_,_,rfl,rfl,_,_,rfl,rfl,rfl⟩
    ·rw[rawF_hi (by omega)]
     have hi':i<q.cap:=hi
     refine⟨_,lf _,by simp;omega,fun k c hk=>?_⟩
     rw[List.getElem?_take] at hk
     split at hk
     ·rwa [List.getElem?_drop] at hk
     ·cases hk
   ·rw[ae _ _ e] at hm;cases hm
 have hargs:aj ρ0 [.agg [.v (.int .i64 id),.g 0 0 5 0 n],.v (.int .u8 kd)] [.agg #[.int .i64 id,.slice a' n q.cap],.int .u8 kd]:=
  ⟨_,_,rfl,⟨_,⟨_,_,rfl,rfl,_,_,rfl,⟨q0,by simp[ρ0],rfl,by show 0+n≤q.cap;omega,Nat.le_refl _,a',rfl,fun hc=>by
   obtain⟨b,h1,h2⟩:=ha (by simpa[q0] using hc)
   exact⟨b,h1,by rw[h2]⟩⟩,rfl⟩,rfl⟩,_,_,rfl,rfl,rfl⟩
 refine(fM (C:=cx) (Γ:=[conIxSB]) (w0:=W) (ρe:=ρ0) aw (dH follows 0) follows fiB.hf (code:=fN fiB.fn) (by kernel_rfl) (by kernel_rfl) (by kernel_rfl) hok (fun _ _ h=>by cases h) (fun e l h=>by obtain⟨rfl,rfl⟩:=v0 e l h;exact⟨Nat.zero_lt_one,Nat.zero_lt_one⟩) (fun _ _ _ h=>by cases h) hargs _
  (firstB_walk n q.cap id kd (rawF n f u) (fun i hi=>by rw[jC hi];exact hf i hi) hbig)).mono ?_
 rintro e W' ⟨v,val,H',nm',ρ',rfl,⟨rfl,hle⟩,hm,hc,hd⟩
 rw[ixK_raw] at hd
 have hv0:ρ'.v 0=some q0:=hm.le.v 0 q0 (by simp[ρ0,Names.noD])
 have hgr:Gr W W':=by
  refine⟨hm.keep.os,hm.keep.tape,hm.keep.output,hm.keep.size,fun x hx=>?_⟩
  by_cases hx':q.cap≠0∧∃o,q.a=some ⟨x,o,none⟩
  ·obtain⟨hcap,o,ho⟩:=hx'
   obtain⟨b,h1,h2,h3,h4,h5⟩:=hu hcap
   obtain⟨l,k1,-,-,-,k5⟩:=hc 0 _ (hle 0 _ rfl)
   obtain rfl:q0=l:=Oi (hv0.symm.trans k1)
   obtain⟨b',u',j1,j2,j3,-,-,j6⟩:=k5 hcap
   have e1:b=b':=by
    have:=h1.symm.trans j1
    injection this with this
    injection this
   have e2:x=b:=by
    have:=ho.symm.trans h1
    injection this with this
    injection this
   subst e1 e2
   have hue:u'=u:=rows_eq h3 j3 fun i hi k hk=>by
    obtain⟨us',p1,p2,p3⟩:=j6 i hi
    have hk':us'[k]? = some us'[k]:=List.getElem?_eq_getElem (by omega)
    have r1:=p3 k _ hk'
    rw[r1]
    by_cases hin:i<n
    ·rw[jC hin] at p1
     obtain⟨c,hcc⟩:=hf i hin
     obtain⟨us,s1,s2,s3⟩:=h5 i (by omega)
     rw[hcc] at p1 s1
     obtain rfl:=comp_den s1 p1
     exact(s3 k _ hk').symm
    ·rw[rawF_hi (by omega)] at p1
     obtain rfl:=m6 p1
     rw[←hk',List.getElem?_take,if_pos hk,List.getElem?_drop]
   subst hue
   exact(show W'.heap[x]? = _ from j2).trans (show W.heap[x]? = _ from h2).symm
  ·refine hm.keep.block x hx fun hmn=>hx' ?_
   rcases hmn with ⟨m,ho⟩|ho
   ·exact(ow m x ho).2
   ·exact ho.elim
 refine⟨?_,hgr⟩
 unfold firV
 by_cases h:ixK f n kd<n
 ·rw[decide_eq_true h] at hd
  obtain⟨l,b,d1,d2,d3,d4,d5,rfl⟩:=hd
  obtain rfl:q0=l:=Oi (hv0.symm.trans d1)
  have d5:q.a=some ⟨b,0,none⟩:=d5
  rw[if_pos h,d5]
 ·rw[decide_eq_false h] at hd
  obtain rfl:val=_:=hd
  rw[if_neg h]
def FirstSpec(F:FuncId):Prop:=∀{ρ:Names} {W:World} {q:LV} {n:Nat} {f:Nat→List SV} {a':Option Addr},cx.Grd W→(∀b o,q.cap≠0→q.a=some ⟨b,o,none⟩→cx.gm≤b)→dD ρ W q 5 f 46→n≤q.N→(∀i,i<n→∃c:aJ,f i=c.cells)→(n:Int)≤cJ→(q.cap≠0→∃b,q.a=some ⟨b,0,none⟩∧a'=some ⟨b,0,none⟩)→∀id kd:Int,
  bP Tryz.prog false F #[.agg #[.int .i64 id,.slice a' n q.cap],.int .u8 kd] W fun e W'=>e=.returned (firV q.a n (ixK f n kd))∧Gr W W'
def selV(b:Bool)(v:SV):SV:=match b with|true=>v|false=>.v (.pointer none)
def firG(sel:Nat→Int→Bool)(H:bd)(nm:Nat):List SV→Option DR
 | [.agg [x,s],kd]=>match x.int?,kd.int? with
  | some (.i64,_),some (.u8,q)=>match s with
   | .g m e sz off n=>match look H m with
    | some (.lst e' sz' _ f t)=>match Nat.beq e e',Nat.beq sz 5,Nat.beq sz' 5,Nat.beq off 0,Nat.beq t 46 with
     | true,true,true,true,true=>some ⟨some ((∀i,i<n→∃c:aJ,f i=c.cells)∧(n:Int)≤cJ∧sel nm q=decide (ixK f n q<n)),selV (sel nm q) (.gp m e 5 (ixK f n q) 0),none,false⟩
     | _,_,_,_,_=>none
    | _=>none
   | .kd m i sz off n=>match look H m with
    | some (.nst _ _ N _ _ szk g tk _ _)=>match Nat.beq sz 5,Nat.beq szk 5,Nat.beq off 0,Nat.beq tk 46 with
     | true,true,true,true=>some ⟨some (i<N∧(∀j,j<n→∃c:aJ,(g i).2 j=c.cells)∧(n:Int)≤cJ∧sel nm q=decide (ixK (g i).2 n q<n)),selV (sel nm q) (.kq m i 5 (ixK (g i).2 n q) 0),none,false⟩
     | _,_,_,_=>none
    | _=>none
   | _=>none
  | _,_=>none
 | _=>none
theorem eff_gr{ρ:Names}{W W':World}{nm:Nat}(hb:HB cx ρ W)(hg:Gr W W'):Eff cx ρ W nm none false ρ W':=
 ⟨.refl ρ,fun _ _ h=>.inl h,fun _ _ h=>.inl h,fun _ _ _ h=>.inl h,fun _ _=>rfl,hg.os,hg.tape,hg.output,hg.size,fun x hx _=>hg.block x hx,hb.gr hg⟩
set_option maxRecDepth 100000 in
theorem fir_eff{F:FuncId}(hF:FirstSpec F){sel:Nat→Int→Bool}{ρ:Names}{W:World}{H:bd}{nm:Nat}{args:List SV}{vs:List Value}{r:DR}(hok:HOk cx H ρ W)(hd:aj ρ args vs)(hr:firG sel H nm args=some r)(ho:r.Ob) :
  bP Tryz.prog false F vs.toArray W fun e W'=>∃val,e=.returned val∧eL cx ρ W nm r val W':=by
 unfold firG at hr
 split at hr
 ·rename_i x s kd
  split at hr
  ·rename_i id q hid hq
   obtain⟨v1,w1,rfl,⟨us,⟨y1,z1,rfl,dx,y2,z2,rfl,ds,rfl⟩,rfl⟩,v2,w2,rfl,dk,rfl⟩:=hd
   obtain rfl:=SV.int?_den hid dx
   obtain rfl:=SV.int?_den hq dk
   split at hr
   ·rename_i m e sz off n
    split at hr
    ·rename_i e' sz' N f t hl
     split at hr
     ·rename_i h1 h2 h3 h4 h5
      obtain rfl:=Nb h1
      obtain rfl:=Nb h2
      obtain rfl:=Nb h3
      obtain rfl:=Nb h4
      obtain rfl:=Nb h5
      obtain rfl:=Oi hr
      obtain⟨o1,o2,o3⟩:=(ho:_∧_∧_)
      obtain⟨l,d1,d2,d3,d4,a',rfl,d6⟩:=ds
      obtain⟨l',c1,c2,c3,c4,c5⟩:=hok.blk m _ hl
      obtain rfl:l=l':=Oi (d1.symm.trans c1)
      rw[Nat.sub_zero] at d6 ⊢
      refine(hF (ρ:=ρ) (q:=l) (f:=f) hok.hb.grd (fun b o k1 k2=>(hok.hb.low m b (.inr (.inl ⟨e,l,o,d1,d2,k1,k2⟩))).1) ⟨by omega,fun hc=>by
       obtain⟨b,u,k1,k2,k3,k4,k5,k6⟩:=c5 hc
       exact⟨b,u,k1,k2,k3,k4,k5,fun i hi=>k6 i (by omega)⟩⟩ (by omega) o1 o2 (fun hc=>by
       obtain⟨b,k1,k2⟩:=d6 hc
       exact⟨b,k1,by rw[k2]⟩) _ _).mono ?_
      rintro e2 W' ⟨rfl,hg⟩
      refine⟨_,rfl,ρ,eff_gr hok.hb hg,fun _ _ h=>(by cases h),?_⟩
      show den ρ (selV (sel nm q) (.gp m e 5 (ixK f n q) 0)) _
      rw[o3]
      unfold firV
      by_cases hlt:ixK f n q<n
      ·rw[decide_eq_true hlt,if_pos hlt]
       obtain⟨b,k1,k2⟩:=d6 (by omega)
       rw[k1]
       exact⟨l,b,d1,d2,by omega,d4,k1,rfl⟩
      ·rw[decide_eq_false hlt,if_neg hlt]
       exact rfl
     ·cases hr
    ·cases hr
   ·rename_i m i sz off n
    split at hr
    ·rename_i e sz0 N f p szk g tk t last hl
     split at hr
     ·rename_i h1 h2 h3 h4
      obtain rfl:=Nb h1
      obtain rfl:=Nb h2
      obtain rfl:=Nb h3
      obtain rfl:=Nb h4
      obtain rfl:=Oi hr
      obtain⟨o0,o1,o2,o3⟩:=(ho:_∧_∧_∧_)
      obtain⟨l,d1,d3,d4,a',rfl,d6⟩:=ds
      obtain⟨ll,K⟩:=hok.blk m _ hl
      obtain⟨l',c1,c2,c3⟩:=K.kid i o0
      obtain rfl:l=l':=Oi (d1.symm.trans c1)
      rw[Nat.sub_zero] at d6 ⊢
      refine(hF (ρ:=ρ) (q:=l) (f:=(g i).2) hok.hb.grd (fun b o k1 k2=>(hok.hb.low m b (.inr (.inr ⟨i,l,o,d1,k1,k2⟩))).1) c3 (by omega) o1 o2 (fun hc=>by
       obtain⟨b,k1,k2⟩:=d6 hc
       exact⟨b,k1,by rw[k2]⟩) _ _).mono ?_
      rintro e2 W' ⟨rfl,hg⟩
      refine⟨_,rfl,ρ,eff_gr hok.hb hg,fun _ _ h=>(by cases h),?_⟩
      show den ρ (selV (sel nm q) (.kq m i 5 (ixK (g i).2 n q) 0)) _
      rw[o3]
      unfold firV
      by_cases hlt:ixK (g i).2 n q<n
      ·rw[decide_eq_true hlt,if_pos hlt]
       obtain⟨b,k1,k2⟩:=d6 (by omega)
       rw[k1]
       exact⟨l,b,d1,by omega,d4,k1,rfl⟩
      ·rw[decide_eq_false hlt,if_neg hlt]
       exact rfl
     ·cases hr
    ·cases hr
   ·cases hr
  ·cases hr
 ·cases hr
set_option maxRecDepth 100000 in
def firCon(F:FuncId)(hF:FirstSpec F)(en:∀(args:Array Value) (w:World),(callFunc F args).run cx.P w=.ok (.enter F args) w)(ns:∀args:Array Value,NS cx.P (callFunc F args))(sel:Nat→Int→Bool):Con cx where
 f:=F
 en:=en
 ns:=ns
 run:=fun _=>none
 fresh:=false
 own:=none
 eff:=some (firG sel)
 ok:=fun ze W args vs ob out hG hz hd hr ho=>by cases hr
 effOk:=fun g hg ρ W H nm args vs r hok hfr hd hr ho=>by
  obtain rfl:=Oi hg
  exact fir_eff hF hok hd hr ho
set_option maxRecDepth 100000 in
noncomputable def conFirA(sel:Nat→Int→Bool):Con cx:=firCon fiA.f (fun h1 h2 h3 h4 h5 h6 h7 id kd=>firstA_calls h1 h2 h3 h4 h5 h6 h7 id kd) fiA.en (dG fiA.hf fiA.hB) sel
set_option maxRecDepth 100000 in
noncomputable def conFirB(sel:Nat→Int→Bool):Con cx:=firCon fiB.f (fun h1 h2 h3 h4 h5 h6 h7 id kd=>firstB_calls h1 h2 h3 h4 h5 h6 h7 id kd) fiB.en (dG fiB.hf fiB.hB) sel
end Go.Proofs.YtgigkennhdolpaaGreatDoor
namespace Go.Proofs.YtgigkennhdolpaaGreatDoor
open Go.RowKit
end Go.Proofs.YtgigkennhdolpaaGreatDoor
namespace Go.Proofs.YtgigkennhdolpaaGreatDoor
open Go.RowKit
end Go.Proofs.YtgigkennhdolpaaGreatDoor
namespace Go.Proofs.YtgigkennhdolpaaGreatDoor
open Go.RowKit
set_option maxRecDepth 8000
set_option maxHeartbeats 2000000
def betN(lo hi:Int)(g:Nat→Int):Nat→Nat→Bool
 | _,0=>true
 | k,r+1=>!(decide (g k<lo)||decide (hi<g k))&&betN lo hi g (k+1) r
def betCut(lo hi:Int)(f:Fam):Cut:=⟨Nat,fun k=>k≤f.n∧betN lo hi f.g 0 f.n=betN lo hi f.g k (f.n-k),
 fun k=>⟨[sl 0 (.v (.int .i64 lo)),sl 1 (.v (.int .i64 hi)),sl 9 (.rs 1 f.n fun i=>[.v (.int .i64 (f.g i))]),sl 10 (.v (.int .i64 f.n)),sl 11 (.v (.int .i64 k))],[],0,0,[],[]⟩,fun k=>f.n-k⟩
theorem Bet_walk:∀a,aK ((fun a=>[(a.2.2.n:Int)≤1000000]) a)→aX (C:=cx) [] [] 0 ⟨[],[],[2],0⟩ Tryz.f227 (((dO (rdI .i64) (rdI .i64) (rdF .i64))).enc a) fun v H _=>ai ((fun a=>.v (.bool (betN a.1 a.2.1 a.2.2.g 0 a.2.2.n))) a) H v:=by
 intro⟨lo,hi,f⟩ hn
 replace hn:(f.n:Int)≤1000000:=hn
 refine Exists.intro (betCut lo hi f) ?_
 refine Ai ?_ ?_
 ·refine⟨(0:Nat),[],[],trivial,⟨Nat.zero_le _,rfl⟩,?_⟩
  repeat' (first|(refine Ai ?_ ?_)|(intro _)|exact rfl)
 refine fun(k:Nat) (hk:k≤f.n∧betN lo hi f.g 0 f.n=betN lo hi f.g k (f.n-k))=>?_
 obtain⟨h1,h2⟩:=hk
 refine Ai (fun hb=>?_) (fun hb=>?_)
 ·have hb:(k:Int)<f.n:=Od hb
  refine Ai ⟨by omega,by omega⟩ ?_
  have e:betN lo hi f.g k (f.n-k)=(!(decide (f.g k<lo)||decide (hi<f.g k))&&betN lo hi f.g (k+1) (f.n-(k+1))):=by
   rw[show f.n-k=(f.n-(k+1))+1 by omega];rfl
  refine Ai (fun hc=>?_) (fun hc=>?_)
  ·have hc:(decide (f.g k<lo)||decide (hi<f.g k))=true:=hc
   refine Eq.trans (a:=betN lo hi f.g 0 f.n) ?_ rfl
   rw[h2,e,hc]
   rfl
  ·have hc:(decide (f.g k<lo)||decide (hi<f.g k))=false:=hc
   refine Ai (by constructor<;>omega) ?_
   refine⟨k+1,[],[],(by show f.n-(k+1)<f.n-k;omega),⟨by omega,by rw[h2,e,hc];rfl⟩,?_⟩
   repeat' (first|(refine Ai ?_ ?_)|(intro _)|exact rfl)
 ·have hb:¬(k:Int)<f.n:=of_decide_eq_false hb
  refine Eq.trans (a:=betN lo hi f.g 0 f.n) ?_ rfl
  rw[h2,show f.n-k=0 by omega]
  rfl
noncomputable def conBet:Con cx:=ah 227 Tryz.call227 (dO (rdI .i64) (rdI .i64) (rdF .i64)) _ _ (fun _=>⟨[],[],[2],0⟩) [] (fun _=>rfl) follows Tryz.func227 (by kernel_rfl) Bet_walk
def okI(lo hi x:Int):Bool:=!(decide (x<lo)||decide (hi<x))&&true
def oW(lo hi x y:Int):Bool:=!(decide (x<lo)||decide (hi<x))&&okI lo hi y
def Body.bad1(b:Body):Bool:=!okI 0 65536 b.iD||!oW (-1048576) 1048576 b.posX b.posY||!oW (-4096) 4096 b.velX b.velY||!oW 1 16384 b.w b.h
def Body.ok(b:Body):Bool:=match b.bad1 with
 | true=>false
 | false=>(!b.round||decide (b.w=b.h))&&(!b.fixed||(decide (b.velX=0)&&decide (b.velY=0)))
theorem mc{p:Nat→Prop}(h:p 0):∀i,i<1→p i:=fun i hi=>by
 obtain rfl:i=0:=Nat.lt_one_iff.1 hi
 exact h
theorem two_al{p:Nat→Prop}(h:p 0)(k:p 1):∀i,i<2→p i:=fun i hi=>by
 match i,hi with
 | 0,_=>exact h
 | 1,_=>exact k
theorem Valid_walk:∀a,aK ((fun _=>[]) a)→aX (C:=cx) [conBet] [] 0 ⟨[1001],[],[],0⟩ Tryz.f182 (((bM rdBody)).enc a) fun v H _=>ai ((fun b=>.v (.bool b.ok)) a) H v:=by
 intro b _
 have one:((1:Nat):Int)≤1000000:=by decide
 have two:((2:Nat):Int)≤1000000:=by decide
 refine Ai ⟨mc trivial,one⟩ ?_
 refine Ai (fun h1=>?_) (fun h1=>?_)
 rotate_left
 ·have h1:(!okI 0 65536 b.iD)=true:=h1
  refine Eq.trans (a:=b.ok) ?_ rfl
  unfold Body.ok Body.bad1;rw[h1];rfl
 have h1:(!okI 0 65536 b.iD)=false:=h1
 refine Ai ⟨two_al trivial trivial,two⟩ ?_
 refine Ai (fun h2=>?_) (fun h2=>?_)
 rotate_left
 ·have h2:(!oW (-1048576) 1048576 b.posX b.posY)=true:=h2
  refine Eq.trans (a:=b.ok) ?_ rfl
  unfold Body.ok Body.bad1;rw[h1,h2];rfl
 have h2:(!oW (-1048576) 1048576 b.posX b.posY)=false:=h2
 refine Ai ⟨two_al trivial trivial,two⟩ ?_
 refine Ai (fun h3=>?_) (fun h3=>?_)
 rotate_left
 ·have h3:(!oW (-4096) 4096 b.velX b.velY)=true:=h3
  refine Eq.trans (a:=b.ok) ?_ rfl
  unfold Body.ok Body.bad1;rw[h1,h2,h3];rfl
 have h3:(!oW (-4096) 4096 b.velX b.velY)=false:=h3
 refine Ai ⟨two_al trivial trivial,two⟩ ?_
 refine Ai (fun h4=>?_) (fun h4=>?_)
 ·have h4:(!oW 1 16384 b.w b.h)=true:=h4
  refine Eq.trans (a:=b.ok) ?_ rfl
  unfold Body.ok Body.bad1;rw[h1,h2,h3,h4];rfl
 have h4:(!oW 1 16384 b.w b.h)=false:=h4
 refine Eq.trans (a:=b.ok) (b:=(!b.round||decide (b.w=b.h))&&(!b.fixed||(decide (b.velX=0)&&decide (b.velY=0)))) ?_ rfl
 unfold Body.ok Body.bad1;rw[h1,h2,h3,h4];rfl
noncomputable def conValid:Con cx:=ah 182 Tryz.call182 (bM rdBody) _ _ (fun _=>⟨[1001],[],[],0⟩) [1001] (fun _=>rfl) follows Tryz.func182 (by kernel_rfl) Valid_walk
end Go.Proofs.YtgigkennhdolpaaGreatDoor
