/- Laws of steering: what it leaves is valid; it changes the speeds of entities of clients alone. store.Mask, store.Part; law 30's at. Bits of kinds; parts of entities: what steering leaves as it was. step.Bodies. -/
import Derived.Test.YtgigkennhdolpaaGreatDoorM35
import Derived.Test.YtgigkennhdolpaaGreatDoorM36
import Derived.Test.YtgigkennhdolpaaGreatDoorM22
import Derived.Test.YtgigkennhdolpaaGreatDoorM21
import Derived.Test.YtgigkennhdolpaaGreatDoorM29
namespace Go.Proofs.YtgigkennhdolpaaGreatDoor
open Go.RowKit
theorem low_at{key:Nat→Int}{n k:Nat}(h:Inc key n)(hk:k<n):iR key n (key k)=k:=
 lowB_eq (Nat.le_of_lt hk) (fun j hj=>h j k hj hk) (fun j h1 h2=>by
  rcases Nat.eq_or_lt_of_le h1 with rfl|h1
  ·exact Int.le_refl _
  ·exact Int.le_of_lt (h k j h1 h2))
theorem find_at{w:Wor}(hv:w.Valid){i:Nat}(hi:i<w.l.n):cy w (w.l.e i).iD=(i,true):=by
 have hl:iR (fun k=>(w.l.e k).iD) w.l.n (w.l.e i).iD=i:=low_at (key:=fun k=>(w.l.e k).iD) hv.inc hi
 have hb:iw (fun k=>(w.l.e k).iD) w.l.n (w.l.e i).iD=true:=kv.2 (by rw[hl];exact⟨hi,rfl⟩)
 unfold cy
 rw[Wor.dq.2 hv]
 show (iR (fun k=>(w.l.e k).iD) w.l.n (w.l.e i).iD,iw (fun k=>(w.l.e k).iD) w.l.n (w.l.e i).iD)=_
 rw[hl,hb]
theorem get_at{w:Wor}(hv:w.Valid){i:Nat}(hi:i<w.l.n)(q:Int):cV w (w.l.e i).iD q=oZ (w.l.e i).l q:=by
 unfold cV;rw[find_at hv hi]
theorem hasC_of{l:Cms}{q:Int}{i:Nat}(hi:i<l.n)(hk:(l.c i).kind=q):dP l q=true:=by
 cases h:dP l q with
 | true=>rfl
 | false=>
  have h1:¬ixC l q<l.n:=of_decide_eq_false h
  have h2:=ixN_no (g:=fun i=>decide ((l.c i).kind=q)) (k:=0) (r:=l.n) (i:=i) (Nat.zero_le _) (by unfold ixC at h1;omega)
  exact absurd hk (of_decide_eq_false h2)
theorem mW{l:Cms}(hl:Inc (fun i=>(l.c i).kind) l.n){q:Int}(h:dP l q=true):oZ l q=(l.c (ixC l q),true):=by
 have hi:ixC l q<l.n:=Od h
 have hk:=kr h
 have hlo:=low_at (key:=fun i=>(l.c i).kind) hl hi
 have hlo:iR (fun i=>(l.c i).kind) l.n q=ixC l q:=by rw[←hk];exact(by rw[hk];rw[hk] at hlo;exact hlo)
 have hb:iw (fun i=>(l.c i).kind) l.n q=true:=kv.2 (by rw[hlo];exact⟨hi,hk⟩)
 unfold oZ
 rw[hb,hlo]
theorem getC_no{l:Cms}{q:Int}(h:dP l q=false):oZ l q=(aJ.no,false):=by
 have hb:iw (fun i=>(l.c i).kind) l.n q=false:=by
  cases hb:iw (fun i=>(l.c i).kind) l.n q with
  | false=>rfl
  | true=>
   obtain⟨h1,h2⟩:=kv.1 hb
   rw[hasC_of h1 h2] at h;cases h
 unfold oZ
 rw[hb]
theorem latI_pos{l:bw}{q:Int} : ∀{k:Nat},0<cq l k q↔∃j,j<k∧(l.e j).client=q
 | 0=>⟨fun h=>absurd h (Nat.lt_irrefl _),fun⟨j,h,_⟩=>absurd h (Nat.not_lt_zero _)⟩
 | k+1=>by
  have ih:=latI_pos (l:=l) (q:=q) (k:=k)
  rw[cq]
  by_cases hc:(l.e k).client=q
  ·rw[decide_eq_true hc,Bool.true_and]
   refine⟨fun _=>⟨k,Nat.lt_succ_self k,hc⟩,fun _=>?_⟩
   cases hb:(decide (cq l k q=0)||decide ((l.e (cq l k q-1)).seq≤(l.e k).seq)) with
   | true=>exact Nat.succ_pos k
   | false=>
    simp only[Bool.or_eq_false_iff,decide_eq_false_iff_not] at hb
    show 0<cq l k q
    omega
  ·rw[decide_eq_false hc,Bool.false_and]
   show 0<cq l k q↔_
   rw[ih]
   refine⟨fun⟨j,h1,h2⟩=>⟨j,Nat.lt_succ_of_lt h1,h2⟩,fun⟨j,h1,h2⟩=>⟨j,?_,h2⟩⟩
   rcases Nat.lt_succ_iff_lt_or_eq.1 h1 with h|rfl
   ·exact h
   ·exact absurd h2 hc
theorem oG{l:bw}{q:Int} : ∀{k:Nat},0<cq l k q→(l.e (cq l k q-1)).client=q
 | 0,h=>absurd h (Nat.lt_irrefl _)
 | k+1,h=>by
  rw[cq] at h ⊢
  cases hb:(decide ((l.e k).client=q)&&(decide (cq l k q=0)||decide ((l.e (cq l k q-1)).seq≤(l.e k).seq))) with
  | true=>
   rw[Bool.and_eq_true] at hb
   exact Od hb.1
  | false=>
   rw[hb] at h
   exact oG h
theorem far_max{v:Df.Vec}(hx : -64≤v.x∧v.x≤64)(hy : -64≤v.y∧v.y≤64):(Df.dR v).lo≤64:=by
 simp only[Df.dR,Df.wFar,Df.cU,Df.iN]
 split<;>simp only<;>omega
theorem lim_id{v:Df.Vec}(hx : -64≤v.x∧v.x≤64)(hy : -64≤v.y∧v.y≤64):Df.lim v 64=v:=by
 obtain⟨x,y⟩:=v
 have ix:InR x:=by unfold InR;simp only at hx;omega
 have iy:InR y:=by unfold InR;simp only at hy;omega
 obtain⟨f1,-,-,-,-⟩:=Df.mY (v:=⟨x,y⟩) ix iy
 have hs:=Df.less_far (v:=⟨x,y⟩) (m:=64) f1 (by omega)
 have hf:=far_max hx hy
 unfold Df.lim
 rw[hs,decide_eq_false (by omega)]
 split
 ·rename_i h;obtain⟨rfl,rfl⟩:x=0∧y=0:=h;rfl
 ·rfl
theorem mvI_ok{l:bw}{q:Int}(hm:∀i,i<l.n→InR (l.e i).moveX∧InR (l.e i).moveY)(h:0<cq l l.n q) : -64≤(mvI l q).x∧(mvI l q).x≤64∧-64≤(mvI l q).y∧(mvI l q).y≤64:=by
 have hi:cq l l.n q-1<l.n:=by have:=mP (l:=l) (q:=q) (k:=l.n);omega
 obtain⟨h1,h2⟩:=hm _ hi
 exact Df.lim_ok (v:=⟨(l.e (cq l l.n q-1)).moveX,(l.e (cq l l.n q-1)).moveY⟩) h1 h2 (by omega)
def iu(w:Wor)(l:bw):Wor:=⟨w.tick,⟨w.l.n,fun i=>aR l (w.l.e i)⟩⟩
theorem steerE_ok{w:Wor}{l:bw}(h:(bz w l).2=0):j7 w l=false∧w.Valid∧bz w l=(iu w l,0):=by
 unfold bz at h ⊢
 cases hn:j7 w l with
 | true=>rw[hn] at h;cases h
 | false=>
  refine⟨rfl,?_,rfl⟩
  unfold j7 at hn
  simp only[Bool.or_eq_false_iff,Bool.not_eq_false'] at hn
  exact Wor.dq.1 hn.1
theorem steerE_no{w:Wor}{l:bw}(h:(bz w l).2≠0):bz w l=(⟨0,⟨0,fun _=>Ent.no⟩⟩,2):=by
 unfold bz at h ⊢
 cases hn:j7 w l with
 | true=>rfl
 | false=>rw[hn] at h;exact absurd rfl h
theorem gI(l:bw)(e:Ent):aR l e=e∨dP e.l 4=true∧dP e.l 2=true∧0<cq l l.n (e.l.c (ixC e.l 4)).v0∧aR l e=setV e (mvI l (e.l.c (ixC e.l 4)).v0):=by
 unfold aR
 cases h4:dP e.l 4 with
 | false=>exact .inl rfl
 | true=>
  cases h2:dP e.l 2 with
  | false=>exact .inl rfl
  | true=>
   cases hb:Nat.blt 0 (cq l l.n (e.l.c (ixC e.l 4)).v0) with
   | false=>left;simp only[hb];rfl
   | true=>right;simp only[hb];exact⟨trivial,trivial,Nat.le_of_ble_eq_true hb,rfl⟩
theorem setV_c{e:Ent}{v:Df.Vec}{j:Nat}(h:j≠ixC e.l 2):(setV e v).l.c j=e.l.c j:=by
 show (bif Nat.beq j (ixC e.l 2) then _ else _)=_
 rw[gA h];rfl
theorem setV_2{e:Ent}{v:Df.Vec} : (setV e v).l.c (ixC e.l 2)=⟨(e.l.c (ixC e.l 2)).kind,v.x,v.y,(e.l.c (ixC e.l 2)).v2,(e.l.c (ixC e.l 2)).v3⟩:=by
 show (bif Nat.beq (ixC e.l 2) (ixC e.l 2) then _ else _)=_
 rw[Nat.beq_refl];rfl
theorem setV_kind{e:Ent}{v:Df.Vec}(j:Nat):((setV e v).l.c j).kind=(e.l.c j).kind:=by
 by_cases h:j=ixC e.l 2
 ·subst h;rw[setV_2]
 ·rw[setV_c h]
theorem dZ{l:bw}{e:Ent}(j:Nat):((aR l e).l.c j).kind=(e.l.c j).kind:=by
 rcases gI l e with h|⟨-,-,-,h⟩
 ·rw[h]
 ·rw[h];exact setV_kind j
theorem steerC_ix{l:bw}{e:Ent}(q:Int):ixC (aR l e).l q=ixC e.l q:=by
 unfold ixC
 rw[eN]
 exact nL fun i _ _=>by rw[dZ]
theorem steerC_has{l:bw}{e:Ent}(q:Int):dP (aR l e).l q=dP e.l q:=by
 unfold dP
 rw[steerC_ix,eN]
theorem steerC_o{l:bw}{e:Ent}{j:Nat}(h:(e.l.c j).kind≠2):(aR l e).l.c j=e.l.c j:=by
 rcases gI l e with h'|⟨-,h2,-,h'⟩
 ·rw[h']
 ·rw[h']
  refine setV_c fun e'=>h ?_
  subst e'
  exact kr h2
theorem fits_vel{c:aJ}(h:c.Fits)(hk:c.kind=2){x y:Int}(hx : -64≤x∧x≤64)(hy : -64≤y∧y≤64):aJ.Fits ⟨c.kind,x,y,c.v2,c.v3⟩:=by
 obtain⟨h1,h2,f1,f2,f3,f4,f5,f6,f7,f8,f9,f10,g1,g2⟩:=h
 have hf:=f2 hk
 refine⟨h1,h2,fun e=>absurd (hk.symm.trans e) (by decide),fun _=>?_,fun e=>absurd (hk.symm.trans e) (by decide),fun e=>absurd (hk.symm.trans e) (by decide),fun e=>absurd (hk.symm.trans e) (by decide),fun e=>absurd (hk.symm.trans e) (by decide),fun e=>absurd (hk.symm.trans e) (by decide),fun e=>absurd (hk.symm.trans e) (by decide),fun e=>absurd (hk.symm.trans e) (by decide),fun e=>absurd (hk.symm.trans e) (by decide),fun e=>absurd (hk.symm.trans e) (by decide),fun e=>absurd (hk.symm.trans e) (by decide)⟩
 dsimp only
 omega
theorem jo{w:Wor}{l:bw}(hv:w.Valid)(hm:∀i,i<l.n→InR (l.e i).moveX∧InR (l.e i).moveY):(iu w l).Valid:=by
 refine⟨hv.lo,hv.hi,hv.len,fun i j h1 h2=>?_,fun i hi=>?_⟩
 ·show (aR l (w.l.e i)).iD<(aR l (w.l.e j)).iD
  rw[fV,fV]
  exact hv.inc i j h1 h2
 ·show (aR l (w.l.e i)).Right
  have hr:=hv.right i hi
  refine⟨by rw[fV];exact hr.lo,by rw[fV];exact hr.hi,fun a b h1 h2=>?_,fun j hj=>?_⟩
  ·show ((aR l (w.l.e i)).l.c a).kind<((aR l (w.l.e i)).l.c b).kind
   rw[dZ,dZ]
   rw[eN] at h2
   exact hr.inc a b h1 h2
  ·rw[eN] at hj
   rcases gI l (w.l.e i) with h'|⟨-,h2,hp,h'⟩
   ·rw[h'];exact hr.fits j hj
   ·rw[h']
    by_cases hj2:j=ixC (w.l.e i).l 2
    ·subst hj2
     rw[setV_2]
     obtain⟨m1,m2,m3,m4⟩:=mvI_ok hm hp
     exact fits_vel (hr.fits _ hj) (kr h2) ⟨m1,m2⟩ ⟨m3,m4⟩
    ·rw[setV_c hj2];exact hr.fits j hj
theorem strW_sm{w:Wor}{l:bw}(h:w.l.Sm):(iu w l).l.Sm:=by
 refine⟨h.1,fun i hi=>?_⟩
 have h1:=h.2 i hi
 show (aR l (w.l.e i)).l.Sm
 refine⟨by rw[eN];exact h1.1,fun j hj=>?_⟩
 rw[dZ]
 exact h1.2 j (by rw[eN] at hj;exact hj)
def cutI(a:Inp):Bool:=decide (a.moveX < -64)||decide (64<a.moveX)||decide (a.moveY < -64)||decide (64<a.moveY)
def askB(w:Wor)(l:bw)(i j:Nat):Bool:=(cV w (w.l.e i).iD 4).2&&decide ((l.e j).client=(cV w (w.l.e i).iD 4).1.v0)
def exaB(w:Wor)(l:bw)(i j:Nat):Bool:=askB w l i j&&(decide ((l.e j).moveX=(cV (iu w l) (w.l.e i).iD 2).1.v0)&&decide ((l.e j).moveY=(cV (iu w l) (w.l.e i).iD 2).1.v1)||cutI (l.e j))
theorem strW_get{w:Wor}{l:bw}(hv:w.Valid)(hm:∀i,i<l.n→InR (l.e i).moveX∧InR (l.e i).moveY){i:Nat}(hi:i<w.l.n)(q:Int):cV (iu w l) (w.l.e i).iD q=oZ (aR l (w.l.e i)).l q:=by
 have h:=get_at (jo hv hm) (i:=i) hi q
 have e:((iu w l).l.e i).iD=(w.l.e i).iD:=fV _
 rw[e] at h
 exact h
theorem str_inc{w:Wor}{l:bw}(hv:w.Valid)(hm:∀i,i<l.n→InR (l.e i).moveX∧InR (l.e i).moveY){i:Nat}(hi:i<w.l.n):Inc (fun j=>((aR l (w.l.e i)).l.c j).kind) (aR l (w.l.e i)).l.n:=((jo hv hm).right i hi).inc
theorem str_same{w:Wor}{l:bw}(hv:w.Valid)(hm:∀i,i<l.n→InR (l.e i).moveX∧InR (l.e i).moveY){i:Nat}(hi:i<w.l.n)(h:∀j,j<l.n→askB w l i j=false):cV (iu w l) (w.l.e i).iD 2=cV w (w.l.e i).iD 2:=by
 rw[strW_get hv hm hi,get_at hv hi]
 rcases gI l (w.l.e i) with h'|⟨h4,-,hp,-⟩
 ·rw[h']
 ·obtain⟨j,hj,hc⟩:=latI_pos.1 hp
  have:=h j hj
  unfold askB at this
  rw[get_at hv hi,mW (hv.right i hi).inc h4,hc] at this
  simp at this
theorem str_asked{w:Wor}{l:bw}(hv:w.Valid)(hm:∀i,i<l.n→InR (l.e i).moveX∧InR (l.e i).moveY){i:Nat}(hi:i<w.l.n){j0:Nat}(hj0:j0<l.n)(h:askB w l i j0=true)(h2:dP (w.l.e i).l 2=true) :
  (∃j,j<l.n∧exaB w l i j=true)∧-64≤(cV (iu w l) (w.l.e i).iD 2).1.v0∧(cV (iu w l) (w.l.e i).iD 2).1.v0≤64∧-64≤(cV (iu w l) (w.l.e i).iD 2).1.v1∧(cV (iu w l) (w.l.e i).iD 2).1.v1≤64:=by
 have ha:=h
 unfold askB at ha
 rw[Bool.and_eq_true] at ha
 obtain⟨ho,hc⟩:=ha
 have hc:=Od hc
 have h4:dP (w.l.e i).l 4=true:=by
  cases h4:dP (w.l.e i).l 4 with
  | true=>rfl
  | false=>rw[get_at hv hi,getC_no h4] at ho;cases ho
 have e4:cV w (w.l.e i).iD 4=((w.l.e i).l.c (ixC (w.l.e i).l 4),true):=by rw[get_at hv hi,mW (hv.right i hi).inc h4]
 rw[e4] at hc
 have hp:0<cq l l.n ((w.l.e i).l.c (ixC (w.l.e i).l 4)).v0:=latI_pos.2 ⟨j0,hj0,hc⟩
 have hst:aR l (w.l.e i)=setV (w.l.e i) (mvI l ((w.l.e i).l.c (ixC (w.l.e i).l 4)).v0):=by
  unfold aR
  rw[h4,h2]
  show (bif Nat.blt 0 _ then _ else _)=_
  rw[show Nat.blt 0 (cq l l.n ((w.l.e i).l.c (ixC (w.l.e i).l 4)).v0)=true from Nat.ble_eq_true_of_le hp]
  rfl
 have en:(cV (iu w l) (w.l.e i).iD 2).1=⟨((w.l.e i).l.c (ixC (w.l.e i).l 2)).kind,(mvI l ((w.l.e i).l.c (ixC (w.l.e i).l 4)).v0).x,(mvI l ((w.l.e i).l.c (ixC (w.l.e i).l 4)).v0).y,((w.l.e i).l.c (ixC (w.l.e i).l 2)).v2,((w.l.e i).l.c (ixC (w.l.e i).l 2)).v3⟩:=by
  rw[strW_get hv hm hi,mW (str_inc hv hm hi) (by rw[steerC_has];exact h2),steerC_ix,hst,setV_2]
 have hb:=mvI_ok hm hp
 rw[en]
 refine⟨⟨cq l l.n ((w.l.e i).l.c (ixC (w.l.e i).l 4)).v0-1,by have:=mP (l:=l) (q:=((w.l.e i).l.c (ixC (w.l.e i).l 4)).v0) (k:=l.n);omega,?_⟩,hb⟩
 have hcl:=oG hp
 unfold exaB askB
 rw[e4,en,hcl]
 simp only[decide_true,Bool.and_true,Bool.true_and]
 by_cases hcut:cutI (l.e (cq l l.n ((w.l.e i).l.c (ixC (w.l.e i).l 4)).v0-1))=true
 ·rw[hcut,Bool.or_true]
 ·have hcut:cutI (l.e (cq l l.n ((w.l.e i).l.c (ixC (w.l.e i).l 4)).v0-1))=false:=by simpa using hcut
  unfold cutI at hcut
  simp only[Bool.or_eq_false_iff,decide_eq_false_iff_not] at hcut
  have hid:mvI l ((w.l.e i).l.c (ixC (w.l.e i).l 4)).v0=⟨(l.e (cq l l.n ((w.l.e i).l.c (ixC (w.l.e i).l 4)).v0-1)).moveX,(l.e (cq l l.n ((w.l.e i).l.c (ixC (w.l.e i).l 4)).v0-1)).moveY⟩:=lim_id (by dsimp only;omega) (by dsimp only;omega)
  rw[hid]
  simp
set_option maxRecDepth 8000
set_option maxHeartbeats 2000000
def bitK(q:Int):Int:=bif (decide (q<1)||decide (10<q)) then 0 else IntKind.u32.wrap (1*2^(min q.toNat IntKind.u32.bits))
theorem BitOf_walk:∀a,aK ((fun q=>[0≤q]) a)→aX (C:=cx) [] [] 0 aw Tryz.f50 ((bM (rdI .u8)).enc a) fun v H _=>ai ((fun q=>.v (.int .u32 (bitK q))) a) H v:=by
 intro q h
 replace h:0≤q:=h
 refine Ai (fun hc=>?_) (fun hc=>?_)
 ·have hc:(decide (q<1)||decide (10<q))=true:=hc
  simp only[bitK,hc]
  exact rfl
 ·have hc:(decide (q<1)||decide (10<q))=false:=hc
  simp only[bitK,hc]
  repeat' (first|(refine Ai ?_ ?_)|exact h|(intro _)|exact rfl)
noncomputable def conBitOf:Con cx:=ah 50 Tryz.call50 (bM (rdI .u8)) _ _ (fun _=>aw) [] (fun _=>rfl) follows Tryz.func50 (by kernel_rfl) BitOf_walk
def lP(l:Cms):Nat→Int
 | 0=>0
 | k+1=>eK .or .u32 (lP l k) (bitK (l.c k).kind)
def mskE(e:Ent):Int:=lP e.l e.l.n
def mskC(e:Ent):Cut:=⟨Nat,fun k=>k≤e.l.n,fun k=>⟨[sl 3 (.v (.int .u32 (lP e.l k))),sl 7 e.l.sv,sl 8 (i64 e.l.n),sl 9 (i64 k)],[],1,0,[],[]⟩,fun k=>e.l.n-k⟩
theorem Mask_walk:∀a,aK ((fun e=>[e.l.Sm]) a)→aX (C:=cx) [conBitOf] [] 0 ⟨[],[],[3],0⟩ Tryz.f17 ((bM eG).enc a) fun v H _=>ai ((fun e=>.v (.int .u32 (mskE e))) a) H v:=by
 intro e h
 replace h:e.l.Sm:=h
 have hn:(e.l.n:Int)≤9223372036854775807:=h.1
 refine Exists.intro (mskC e) ?_
 refine Ai ?_ ?_
 ·refine⟨(0:Nat),[],[],trivial,Nat.zero_le _,?_⟩
  repeat' (first|(refine Ai ?_ ?_)|(intro _)|exact rfl)
 refine fun(k:Nat) (hk:k≤e.l.n)=>?_
 refine Ai (fun hb=>?_) (fun hb=>?_)
 ·have hb:(k:Int)<e.l.n:=Od hb
  have hq:=(h.2 k (by omega)).1
  refine Ai ⟨by omega,by omega⟩ ?_
  refine Ai hq ?_
  refine Ai (by unfold I64;omega:I64 ((k:Int)+1)) ?_
  refine⟨k+1,[],[],(by show e.l.n-(k+1)<e.l.n-k;omega),(by show k+1≤e.l.n;omega),?_⟩
  repeat' (first|(refine Ai ?_ ?_)|(intro _)|exact rfl)
 ·have hb:¬(k:Int)<e.l.n:=of_decide_eq_false hb
  obtain rfl:k=e.l.n:=by omega
  exact rfl
noncomputable def conMask:Con cx:=ah 17 Tryz.call17 (bM eG) _ _ (fun _=>⟨[],[],[3],0⟩) [] (fun _=>rfl) follows Tryz.func17 (by kernel_rfl) Mask_walk
def oH(m q:Int):Bool:=decide (¬eK .and .u32 (bitK q) m=0)
def ic(l:Cms)(m:Int)(k:Nat):List aJ:=gH (fun i=>l.c i) (fun i=>oH m (l.c i).kind) k
def mr(L:List aJ)(i:Nat):aJ:=L.getD i aJ.no
def prtE(e:Ent)(m:Int):Ent:=⟨e.iD,⟨(ic e.l m e.l.n).length,fun i=>mr (ic e.l m e.l.n) i⟩⟩
def prtC(e:Ent)(m:Int):Cut:=⟨Nat,fun k=>k≤e.l.n,fun k=>⟨[sl 1 (.v (.int .u32 m)),sl 4 (.p 1 0),sl 5 (.p 2 0),sl 12 e.l.sv,sl 13 (i64 e.l.n),sl 14 (i64 k)],
 [(1,.lay [.il .i64 0,.v (.slice none 0 0)] 42),(2,.lay [.v (.int .i64 e.iD),.g 3 4 5 0 (ic e.l m k).length] 42),(3,.lst 4 5 (ic e.l m k).length (fun i=>(mr (ic e.l m k) i).cells) 46)],5,0,[],[]⟩,fun k=>e.l.n-k⟩
theorem Part_walk:∀a,aK ((fun a=>[a.1.l.Sm,a.1.l.n≤100000]) a)→aX (C:=cx) [conBitOf] [] 0 ⟨[],[],[3],0⟩ Tryz.f25 ((aV eG (rdI .u32)).enc a) fun v H _=>ai ((fun a=>(prtE a.1 a.2).sv) a) H v:=by
 intro⟨e,m⟩ ⟨h,hn⟩
 replace h:e.l.Sm:=h
 replace hn:e.l.n≤100000:=hn
 refine Exists.intro (prtC e m) ?_
 refine Ai ?_ ?_
 ·refine⟨(0:Nat),[],[.cell2 2 1 5 46],trivial,Nat.zero_le _,?_⟩
  repeat' (first|(refine Ai ?_ ?_)|(intro _)|exact rfl)
  all_goals exact absurd ‹_<0› (Nat.not_lt_zero _)
 refine fun(k:Nat) (hk:k≤e.l.n)=>?_
 refine Ai (fun hb=>?_) (fun hb=>?_)
 ·have hb:(k:Int)<e.l.n:=Od hb
  have hq:=(h.2 k (by omega)).1
  refine Ai ⟨by omega,by omega⟩ ?_
  refine Ai hq ?_
  have hlen:=jc (f:=fun i=>e.l.c i) (g:=fun i=>oH m (e.l.c i).kind) k
  refine Ai (fun hc=>?_) (fun hc=>?_)
  ·have hc:oH m (e.l.c k).kind=true:=hc
   have ey:=gX (f:=fun i=>e.l.c i) (g:=fun i=>oH m (e.l.c i).kind) hc
   have em:∀i,i<(ic e.l m k).length+1→mr (ic e.l m (k+1)) i=bif Nat.ble (ic e.l m k).length i then e.l.c k else mr (ic e.l m k) i:=fun i hi=>(congrArg (fun l=>mr l i) ey).trans (pushM _ _ hi)
   have hfit:iz ((ic e.l m k).length+1) 40:=⟨Nat.le_trans (by unfold ic;omega:(ic e.l m k).length+1≤100001) (by decide),by unfold ic;omega⟩
   refine Ai ⟨hfit,fun _ _ _=>⟨rfl,rfl,rfl,rfl,rfl,trivial⟩⟩ ?_
   refine Ai (by unfold I64;omega:I64 ((k:Int)+1)) ?_
   refine⟨k+1,[(4,7)],[],(by show e.l.n-(k+1)<e.l.n-k;omega),(by show k+1≤e.l.n;omega),?_⟩
   repeat' (first|(refine Ai ?_ ?_)|(intro _)|exact rfl)
   all_goals first|exact(congrArg List.length ey).trans List.length_append|exact(congrArg aJ.kind (em _ ‹_›)).trans (bY aJ.kind)|exact(congrArg aJ.v0 (em _ ‹_›)).trans (bY aJ.v0)|exact(congrArg aJ.v1 (em _ ‹_›)).trans (bY aJ.v1)|exact(congrArg aJ.v2 (em _ ‹_›)).trans (bY aJ.v2)|exact(congrArg aJ.v3 (em _ ‹_›)).trans (bY aJ.v3)|trace_state
  ·have hc:oH m (e.l.c k).kind=false:=hc
   have ey:=jb (f:=fun i=>e.l.c i) (g:=fun i=>oH m (e.l.c i).kind) hc
   refine Ai (by unfold I64;omega:I64 ((k:Int)+1)) ?_
   refine⟨k+1,[],[],(by show e.l.n-(k+1)<e.l.n-k;omega),(by show k+1≤e.l.n;omega),?_⟩
   repeat' (first|(refine Ai ?_ ?_)|(intro _)|exact rfl)
   all_goals first|exact congrArg List.length ey|exact congrArg (fun l=>(mr l _).kind) ey|exact congrArg (fun l=>(mr l _).v0) ey|exact congrArg (fun l=>(mr l _).v1) ey|exact congrArg (fun l=>(mr l _).v2) ey|exact congrArg (fun l=>(mr l _).v3) ey|trace_state
 ·have hb:¬(k:Int)<e.l.n:=of_decide_eq_false hb
  obtain rfl:k=e.l.n:=by omega
  repeat' (first|(refine Ai ?_ ?_)|(intro _)|exact rfl)
  all_goals first|exact congrArg (fun i=>(mr (ic e.l m e.l.n) i).kind) (Nat.zero_add _).symm|exact congrArg (fun i=>(mr (ic e.l m e.l.n) i).v0) (Nat.zero_add _).symm|exact congrArg (fun i=>(mr (ic e.l m e.l.n) i).v1) (Nat.zero_add _).symm|exact congrArg (fun i=>(mr (ic e.l m e.l.n) i).v2) (Nat.zero_add _).symm|exact congrArg (fun i=>(mr (ic e.l m e.l.n) i).v3) (Nat.zero_add _).symm|trace_state
noncomputable def conPart:Con cx:=ah 25 Tryz.call25 (aV eG (rdI .u32)) _ _ (fun _=>⟨[],[],[3],0⟩) [] (fun _=>rfl) follows Tryz.func25 (by kernel_rfl) Part_walk
def na(w:Wor)(f:Fam)(i:Nat):Bool:=decide ((((w.l.e i).l.n:Nat):Int)=0)||decide (¬((w.l.e i).l.c 0).v0=f.g (2*(i:Int)).toNat)||decide (¬((w.l.e i).l.c 0).v1=f.g (2*(i:Int)+1).toNat)
def atW(w:Wor)(f:Fam):Bool:=!decide (¬2*(w.l.n:Int)=f.n)&&!bc (na w f) 0 w.l.n
def atC(w:Wor)(f:Fam):Cut:=⟨Nat,fun k=>k≤w.l.n∧bc (na w f) 0 w.l.n=bc (na w f) k (w.l.n-k),fun k=>⟨[sl 1 (.rs 1 f.n fun i=>[.v (.int .i64 (f.g i))]),sl 15 w.l.sv,sl 16 (i64 w.l.n),sl 17 (i64 k)],[],1,0,[],[]⟩,fun k=>w.l.n-k⟩
theorem At30_walk:∀a,aK ((fun a=>[a.1.l.n≤100000]) a)→aX (C:=cx) [] [] 0 ⟨[1006],[],[4],0⟩ Tryz.f38 ((aV cP (rdF .i64)).enc a) fun v H _=>ai ((fun a=>.v (.bool (atW a.1 a.2))) a) H v:=by
 intro⟨w,f⟩ hn
 replace hn:w.l.n≤100000:=hn
 refine Ai (show InR (2*(w.l.n:Int)) by unfold InR;omega) ?_
 refine Ai (fun hx=>?_) (fun hx=>?_)
 ·have hx:decide (¬2*(w.l.n:Int)=f.n)=true:=hx
  have e:atW w f=false:=by unfold atW;rw[hx];rfl
  simp only[e]
  exact rfl
 have hx:decide (¬2*(w.l.n:Int)=f.n)=false:=hx
 have hl:2*(w.l.n:Int)=f.n:=by simpa using hx
 refine Exists.intro (atC w f) ?_
 refine Ai ?_ ?_
 ·refine⟨(0:Nat),[],[],trivial,⟨Nat.zero_le _,rfl⟩,?_⟩
  repeat' (first|(refine Ai ?_ ?_)|(intro _)|exact rfl)
 refine fun(k:Nat) (hk:k≤w.l.n∧bc (na w f) 0 w.l.n=bc (na w f) k (w.l.n-k))=>?_
 obtain⟨k1,k2⟩:=hk
 refine Ai (fun hb=>?_) (fun hb=>?_)
 ·have hb:(k:Int)<w.l.n:=Od hb
  have e:=dB (g:=na w f) (k:=k) (n:=w.l.n) (by omega)
  refine Ai ⟨by omega,by omega⟩ ?_
  have kn:∀{b:Bool},decide ((((w.l.e k).l.n:Nat):Int)=0)=false→0<((w.l.e k).l.n:Int):=fun h=>by have:=of_decide_eq_false h;omega
  have g2:(decide ((((w.l.e k).l.n:Nat):Int)=0)||decide (¬((w.l.e k).l.c 0).v0=f.g (2*(k:Int)).toNat))=false→0<((w.l.e k).l.n:Int):=fun h=>by
   rw[Bool.or_eq_false_iff] at h
   exact kn (b:=true) h.1
  refine Ai (fun hq=>⟨Int.le_refl 0,kn (b:=true) hq⟩) ?_
  refine Ai (fun _=>(by unfold InR;omega:InR (2*(k:Int)))) ?_
  refine Ai (fun _=>⟨(by omega:0≤2*(k:Int)),(by omega:2*(k:Int)<f.n)⟩) ?_
  refine Ai (fun hq=>⟨Int.le_refl 0,g2 hq⟩) ?_
  refine Ai (fun _=>(by unfold InR;omega:InR (2*(k:Int)))) ?_
  refine Ai (fun _=>(by unfold InR;omega:InR (2*(k:Int)+1))) ?_
  refine Ai (fun _=>⟨(by omega:0≤2*(k:Int)+1),(by omega:2*(k:Int)+1<f.n)⟩) ?_
  refine Ai (fun hc=>?_) (fun hc=>?_)
  ·have hc:na w f k=true:=hc
   simp only[hc] at e
   have e1:atW w f=false:=by unfold atW;rw[k2,e];simp
   simp only[e1]
   exact rfl
  ·have hc:na w f k=false:=hc
   simp only[hc] at e
   refine Ai (by unfold I64;omega:I64 ((k:Int)+1)) ?_
   refine⟨k+1,[],[],(by show w.l.n-(k+1)<w.l.n-k;omega),⟨by omega,by rw[k2,e]⟩,?_⟩
   repeat' (first|(refine Ai ?_ ?_)|(intro _)|exact rfl)
 ·have hb:¬(k:Int)<w.l.n:=of_decide_eq_false hb
  have e0:bc (na w f) 0 w.l.n=false:=by rw[k2,show w.l.n-k=0 by omega];rfl
  have e1:atW w f=true:=by unfold atW;rw[e0,hx];rfl
  simp only[e1]
  exact rfl
noncomputable def conAt30:Con cx:=ah 38 Tryz.call38 (aV cP (rdF .i64)) _ _ (fun _=>⟨[1006],[],[4],0⟩) [1006] (fun _=>rfl) follows Tryz.func38 (by kernel_rfl) At30_walk
theorem wrapN32{n:Nat}(h:n<4294967296):IntKind.u32.wrap (n:Int)=n:=by
 simp only[IntKind.wrap,IntKind.signed,IntKind.bits]
 simp
 omega
theorem orN32{n p:Nat}(hn:n<4294967296)(hp:p<4294967296):eK .or .u32 (n:Int) (p:Int)=((n ||| p:Nat):Int):=by
 show IntKind.u32.wrap ((BitVec.ofInt 32 (n:Int) ||| BitVec.ofInt 32 (p:Int)).toNat:Nat)=_
 have e:(BitVec.ofInt 32 (n:Int) ||| BitVec.ofInt 32 (p:Int)).toNat=n ||| p:=by
  rw[BitVec.toNat_or,BitVec.ofInt_natCast,BitVec.ofInt_natCast,BitVec.toNat_ofNat,BitVec.toNat_ofNat,Nat.mod_eq_of_lt hn,Nat.mod_eq_of_lt hp]
 rw[e]
 exact wrapN32 (Nat.or_lt_two_pow (n:=32) hn hp)
theorem andN32{n p:Nat}(hn:n<4294967296)(hp:p<4294967296):eK .and .u32 (n:Int) (p:Int)=((n &&& p:Nat):Int):=by
 show IntKind.u32.wrap ((BitVec.ofInt 32 (n:Int) &&& BitVec.ofInt 32 (p:Int)).toNat:Nat)=_
 have e:(BitVec.ofInt 32 (n:Int) &&& BitVec.ofInt 32 (p:Int)).toNat=n &&& p:=by
  rw[BitVec.toNat_and,BitVec.ofInt_natCast,BitVec.ofInt_natCast,BitVec.toNat_ofNat,BitVec.toNat_ofNat,Nat.mod_eq_of_lt hn,Nat.mod_eq_of_lt hp]
 rw[e]
 exact wrapN32 (Nat.and_lt_two_pow (n:=32) n hp)
theorem bitK_ne{q:Int}(h:q≠2):∃p:Nat,p<4294967296∧bitK q=p∧p.testBit 2=false:=by
 by_cases hb:q<1∨10<q
 ·refine⟨0,by omega,?_,by decide⟩
  unfold bitK
  rw[show (decide (q<1)||decide (10<q))=true by simpa using hb];rfl
 ·have hk:q=1∨q=3∨q=4∨q=5∨q=6∨q=7∨q=8∨q=9∨q=10:=by omega
  rcases hk with rfl|rfl|rfl|rfl|rfl|rfl|rfl|rfl|rfl
  ·exact⟨2,by decide,by decide,by decide⟩
  ·exact⟨8,by decide,by decide,by decide⟩
  ·exact⟨16,by decide,by decide,by decide⟩
  ·exact⟨32,by decide,by decide,by decide⟩
  ·exact⟨64,by decide,by decide,by decide⟩
  ·exact⟨128,by decide,by decide,by decide⟩
  ·exact⟨256,by decide,by decide,by decide⟩
  ·exact⟨512,by decide,by decide,by decide⟩
  ·exact⟨1024,by decide,by decide,by decide⟩
theorem maskN_no{l:Cms} : ∀{k:Nat},(∀i,i<k→(l.c i).kind≠2)→∃p:Nat,p<4294967296∧lP l k=p∧p.testBit 2=false
 | 0,_=>⟨0,by decide,rfl,by decide⟩
 | k+1,h=>by
  obtain⟨p,h1,h2,h3⟩:=maskN_no (l:=l) (k:=k) fun i hi=>h i (Nat.lt_succ_of_lt hi)
  obtain⟨q,k1,k2,k3⟩:=bitK_ne (h k (Nat.lt_succ_self k))
  refine⟨p ||| q,Nat.or_lt_two_pow (n:=32) h1 k1,?_,by rw[Nat.testBit_or,h3,k3];rfl⟩
  show eK .or .u32 (lP l k) (bitK (l.c k).kind)=_
  rw[h2,k2,orN32 h1 k1]
def velB(e:Ent):Bool:=decide (eK .and .u32 ((mskE e).fdiv (2^(min (Int.toNat 2) IntKind.u32.bits))) 1=1)
theorem velB_has{e:Ent}(h:velB e=true):dP e.l 2=true:=by
 cases hc:dP e.l 2 with
 | true=>rfl
 | false=>
  exfalso
  obtain⟨p,h1,h2,h3⟩:=maskN_no (l:=e.l) (k:=e.l.n) fun i hi hk=>by rw[hasC_of hi hk] at hc;cases hc
  have h:=Od h
  have e2:(mskE e).fdiv (2^(min (Int.toNat 2) IntKind.u32.bits))=((p/4:Nat):Int):=by
   show (lP e.l e.l.n).fdiv 4=_
   rw[h2]
   rw[Int.fdiv_eq_ediv_of_nonneg _ (by decide)]
   omega
  rw[e2,show (1:Int)=((1:Nat):Int) from rfl,andN32 (by omega) (by decide)] at h
  have h4:p/4%2=1:=by
   have:(p/4) &&& 1=1:=by exact_mod_cast h
   rwa [Nat.and_one_is_mod] at this
  have h5:p.testBit 2=decide (p/4%2=1):=by
   rw[Nat.testBit_eq_decide_div_mod_eq]
  rw[h5,h4] at h3
  simp at h3
theorem oD{a b:Cms}(h:∀i,(a.c i).kind=(b.c i).kind):∀k,lP a k=lP b k
 | 0=>rfl
 | k+1=>by rw[lP,lP,oD h k,h k]
theorem msk_str{l:bw}{e:Ent} : mskE (aR l e)=mskE e:=by
 unfold mskE
 rw[eN]
 exact oD (fun i=>dZ i) _
theorem oN{α:Type}{f f':Nat→α}{g g':Nat→Bool} : ∀{k:Nat},(∀i,i<k→g i=g' i)→(∀i,i<k→g i=true→f i=f' i)→gH f g k=gH f' g' k
 | 0,_,_=>rfl
 | k+1,h1,h2=>by
  have ih:=oN (f:=f) (f':=f') (g:=g) (g':=g') (k:=k) (fun i hi=>h1 i (by omega)) (fun i hi=>h2 i (by omega))
  have e:=h1 k (by omega)
  cases hg:g k with
  | true=>rw[gX hg,gX (by rw[←e];exact hg),ih,h2 k (by omega) hg]
  | false=>rw[jb hg,jb (by rw[←e];exact hg),ih]
theorem keep_2:oH 2042 2=false:=by decide
theorem part_str{l:bw}{e:Ent} : prtE (aR l e) 2042=prtE e 2042:=by
 have h:ic (aR l e).l 2042 (aR l e).l.n=ic e.l 2042 e.l.n:=by
  rw[eN]
  unfold ic
  refine oN (fun i _=>by rw[dZ]) (fun i _ hg=>steerC_o fun hk=>?_)
  rw[dZ,hk,keep_2] at hg
  cases hg
 unfold prtE
 rw[h,fV]
theorem eqC_refl(a:aJ):eqC a a=true:=by simp[eqC]
theorem sameE_refl(e:Ent):fc e e=true:=by
 have h:bc (fun i=>!eqC (e.l.c i) (e.l.c i)) 0 e.l.n=false:=nc fun i _ _=>by simp only[eqC_refl];rfl
 unfold fc
 rw[h];simp
def bu(l:Ens)(k:Nat):List Body:=gH (fun i=>(bJ (l.e i)).1) (fun i=>(bJ (l.e i)).2) k
def fP(L:List Body)(i:Nat):Body:=L.getD i Body.no
def zeroSc:List SV:=[.v (.slice none 0 0),.v (.slice none 0 0),.il .i64 0,.il .i64 0]
def bodC(l:Ens)(r:Rps)(x y:Int):Cut:=⟨Nat,fun k=>k≤l.n,fun k=>⟨[sl 1 r.sv,sl 6 (.p 2 0),sl 7 (.p 3 0),sl 18 l.sv,sl 19 (i64 l.n),sl 20 (i64 k)],
 [(2,.lay zeroSc 161),(3,.lay [.g 4 5 9 0 (bu l k).length,.v (.slice none 0 0),.v (.int .i64 x),.v (.int .i64 y)] 161),(4,.lst 5 9 (bu l k).length (fun i=>(fP (bu l k) i).cells) 209)],6,0,[],[]⟩,fun k=>l.n-k⟩
set_option maxHeartbeats 2000000 in
set_option maxRecDepth 8000 in
theorem Bodies_walk:∀a,aK ((fun a=>[a.1.l.Sm,a.1.l.n≤1000,a.2.1.n=0]) a)→aX (C:=cx) [conBody] [] 0 ⟨[],[],[3],1⟩ Tryz.f81 ((dO cP rdRps dW).enc a) fun v H _=>fE ((fun a=>.agg [.rs 9 (bu a.1.l a.1.l.n).length (fun i=>(fP (bu a.1.l a.1.l.n) i).cells),.v (.slice none 0 0),.v (.int .i64 a.2.2.x),.v (.int .i64 a.2.2.y)]) a) H v:=by
 intro⟨w,r,g⟩ ⟨hm,hn,hr⟩
 replace hr:r.n=0:=hr
 replace hm:w.l.Sm:=hm
 replace hn:w.l.n≤1000:=hn
 refine Exists.intro (bodC w.l r g.x g.y) ?_
 refine Ai ?_ ?_
 ·refine⟨(0:Nat),[],[.cell2 3 0 9 209],trivial,Nat.zero_le _,?_⟩
  repeat' (first|(refine Ai ?_ ?_)|(intro _)|exact rfl)
  all_goals exact absurd ‹_<0› (Nat.not_lt_zero _)
 refine fun(k:Nat) (hk:k≤w.l.n)=>?_
 refine Ai (fun hb=>?_) (fun hb=>?_)
 ·have hb:(k:Int)<w.l.n:=Od hb
  have hkl:((w.l.e k).l.n:Int)≤cJ:=(hm.2 k (by omega)).1
  refine Ai ⟨by omega,by omega⟩ ?_
  refine Ai ⟨fun _ _=>trivial,hkl⟩ ?_
  refine Ai (fun hc=>?_) (fun hc=>?_)
  ·have hc:(bJ (w.l.e k)).2=true:=hc
   have hlen:=jc (f:=fun i=>(bJ (w.l.e i)).1) (g:=fun i=>(bJ (w.l.e i)).2) k
   have ey:=gX (f:=fun i=>(bJ (w.l.e i)).1) (g:=fun i=>(bJ (w.l.e i)).2) hc
   have em:∀i,i<(bu w.l k).length+1→fP (bu w.l (k+1)) i=bif Nat.ble (bu w.l k).length i then(bJ (w.l.e k)).1 else fP (bu w.l k) i:=fun i hi=>(congrArg (fun l=>fP l i) ey).trans (pushM _ _ hi)
   have hfit:iz ((bu w.l k).length+1) 64:=⟨Nat.le_trans (by unfold bu;omega:(bu w.l k).length+1≤1001) (by decide),by unfold bu;omega⟩
   refine Ai ⟨hfit,fun _ _ _=>⟨rfl,rfl,rfl,rfl,rfl,rfl,rfl,trivial,trivial,trivial⟩⟩ ?_
   refine Ai (by unfold I64;omega:I64 ((k:Int)+1)) ?_
   refine⟨k+1,[(5,9)],[],(by show w.l.n-(k+1)<w.l.n-k;omega),(by omega:k+1≤w.l.n),?_⟩
   repeat' (first|(refine Ai ?_ ?_)|(intro _)|exact rfl)
   all_goals first|exact(congrArg List.length ey).trans List.length_append|exact(congrArg Body.iD (em _ ‹_›)).trans (bY Body.iD)|exact(congrArg Body.posX (em _ ‹_›)).trans (bY Body.posX)|exact(congrArg Body.posY (em _ ‹_›)).trans (bY Body.posY)|exact(congrArg Body.velX (em _ ‹_›)).trans (bY Body.velX)|exact(congrArg Body.velY (em _ ‹_›)).trans (bY Body.velY)|exact(congrArg Body.w (em _ ‹_›)).trans (bY Body.w)|exact(congrArg Body.h (em _ ‹_›)).trans (bY Body.h)|exact(congrArg Body.round (em _ ‹_›)).trans (bY Body.round)|exact(congrArg Body.fixed (em _ ‹_›)).trans (bY Body.fixed)
  ·have hc:(bJ (w.l.e k)).2=false:=hc
   have ey:=jb (f:=fun i=>(bJ (w.l.e i)).1) (g:=fun i=>(bJ (w.l.e i)).2) hc
   refine Ai (by unfold I64;omega:I64 ((k:Int)+1)) ?_
   refine⟨k+1,[],[],(by show w.l.n-(k+1)<w.l.n-k;omega),(by omega:k+1≤w.l.n),?_⟩
   repeat' (first|(refine Ai ?_ ?_)|(intro _)|exact rfl)
   all_goals first|exact congrArg List.length ey|exact congrArg (fun l=>(fP l _).iD) ey|exact congrArg (fun l=>(fP l _).posX) ey|exact congrArg (fun l=>(fP l _).posY) ey|exact congrArg (fun l=>(fP l _).velX) ey|exact congrArg (fun l=>(fP l _).velY) ey|exact congrArg (fun l=>(fP l _).w) ey|exact congrArg (fun l=>(fP l _).h) ey|exact congrArg (fun l=>(fP l _).round) ey|exact congrArg (fun l=>(fP l _).fixed) ey
 ·have hb:¬(k:Int)<w.l.n:=of_decide_eq_false hb
  obtain rfl:k=w.l.n:=by omega
  refine Ai (fun h=>absurd (show (0:Int)<r.n from Od h) (by omega)) (fun _=>?_)
  refine Ai (fun _ _=>rfl) ?_
  repeat' (first|(refine Ai ?_ ?_)|(intro _)|exact rfl)
  all_goals first|exact congrArg (fun i=>(fP (bu w.l w.l.n) i).iD) (Nat.zero_add _).symm|exact congrArg (fun i=>(fP (bu w.l w.l.n) i).posX) (Nat.zero_add _).symm|exact congrArg (fun i=>(fP (bu w.l w.l.n) i).posY) (Nat.zero_add _).symm|exact congrArg (fun i=>(fP (bu w.l w.l.n) i).velX) (Nat.zero_add _).symm|exact congrArg (fun i=>(fP (bu w.l w.l.n) i).velY) (Nat.zero_add _).symm|exact congrArg (fun i=>(fP (bu w.l w.l.n) i).w) (Nat.zero_add _).symm|exact congrArg (fun i=>(fP (bu w.l w.l.n) i).h) (Nat.zero_add _).symm|exact congrArg (fun i=>(fP (bu w.l w.l.n) i).round) (Nat.zero_add _).symm|exact congrArg (fun i=>(fP (bu w.l w.l.n) i).fixed) (Nat.zero_add _).symm
noncomputable def conBodies:Con cx:=jZ 81 Tryz.call81 (dO cP rdRps dW) _ _ (fun _=>⟨[],[],[3],1⟩) [] (fun _=>rfl) follows Tryz.func81 (by kernel_rfl) Bodies_walk
end Go.Proofs.YtgigkennhdolpaaGreatDoor
