/- (step.mover).run where no other body and no rope is. -/
import Derived.Test.YtgigkennhdolpaaGreatDoorM30
import Derived.Test.YtgigkennhdolpaaGreatDoorM28
import Derived.Test.YtgigkennhdolpaaGreatDoorM29
namespace Go.Proofs.YtgigkennhdolpaaGreatDoor
open Go.Conc Go.RowKit
set_option maxHeartbeats 2000000
noncomputable def mi:FnI cx:=⟨125,Tryz.call125,Tryz.f125,Tryz.func125,[],[],[],0,by kernel_rfl⟩
theorem m6{ρ:Names} : ∀{vs us:List Value},aj ρ (vs.map SV.v) us→us=vs
 | [],us,h=>h
 | v::r,us,⟨a,b,e1,e2,e3⟩=>by
  rw[e1,m6 e3]
  obtain rfl:a=v:=e2
  rfl
theorem lf{ρ:Names} : ∀(vs:List Value),aj ρ (vs.map SV.v) vs
 | []=>rfl
 | v::r=>⟨v,r,rfl,rfl,lf r⟩
set_option maxRecDepth 100000 in
theorem axes_walk(vs:List Value)(t off:Nat):ev (C:=cx) [] mi.fn.ntmps 1 (ku (C:=cx) [] [] 0) (gF (C:=cx) []) aw (fN mi.fn) ⟨cu 0 [.p 0 off],[(0,.lay (vs.map SV.v) t)],1,0,[],[]⟩ (endK cx mi.fn.results.toList fun v H' _=>v=.agg [.p 0 (off+0),.p 0 (off+1)]∧ck [(0,.lay (vs.map SV.v) t)] H'):=by
 repeat' (first|exact ck.cons (ck.cons (ck.refl _) rfl) rfl|(refine Ai ?_ ?_)|(intro _)|exact rfl)
theorem axes_calls{W:World}{b off t:Nat}{vs:List Value}(hG:cx.Grd W)(hlow:cx.gm≤b)(hb:Blk W b vs.toArray t)(h1:∀c∈vs,c.oneCell'=true):bP Tryz.prog false 125 #[.pointer (some ⟨b,off,none⟩)] W fun e W'=>e=.returned (.agg #[.pointer (some ⟨b,off,none⟩),.pointer (some ⟨b,off+1,none⟩)])∧Gr W W':=by
 let ρ0:Names:=⟨fun n=>if n=0 then some b else none,fun _=>none,fun _ _=>none,fun _ _ _=>False,[],fun _=>False⟩
 have ow:∀n b',bX ρ0 n b'↔n=0∧b'=b:=fun n b'=>by
  constructor
  ·rintro(h|⟨e,l,o,h,-⟩|⟨i,l,o,h,-⟩)
   ·by_cases e:n=0
    ·simp only[ρ0,if_pos e] at h
     exact⟨e,(Oi h).symm⟩
    ·simp only[ρ0,if_neg e] at h;cases h
   ·cases h
   ·cases h
  ·rintro⟨rfl,rfl⟩
   exact .inl (by simp[ρ0])
 have hok:HOk cx [(0,.lay (vs.map SV.v) t)] ρ0 W:=by
  refine⟨⟨fun n n' b' h h'=>by rw[((ow _ _).1 h).1,((ow _ _).1 h').1],fun n b' h=>?_,fun b i c h=>h.elim,hG⟩,fun n sb hn=>?_⟩
  ·obtain⟨-,rfl⟩:=(ow _ _).1 h
   exact⟨hlow,(Array.getElem?_eq_some_iff.1 (show W.heap[b']? = _ from hb)).1⟩
  ·by_cases e:0=n
   ·subst e
    obtain rfl:=Oi (show some _=some sb from hn)
    exact⟨b,vs,by simp[ρ0],lf vs,hb,h1,fun i c h=>h⟩
   ·rw[ae _ _ e] at hn;cases hn
 have hdom:∀n b',ρ0.n n=some b'→n<1:=fun n b' h=>by
  by_cases e:n=0
  ·omega
  ·simp only[ρ0,if_neg e] at h;cases h
 refine(fM (w0:=W) (ρe:=ρ0) (args:=[.p 0 off]) (vs:=[.pointer (some ⟨b,off,none⟩)]) aw (dH follows 0) follows mi.hf (code:=fN mi.fn) (by kernel_rfl) (by kernel_rfl) (by kernel_rfl) hok hdom (fun _ _ h=>by cases h) (fun _ _ _ h=>by cases h) ⟨_,_,rfl,⟨b,by simp[ρ0],rfl⟩,rfl⟩ _ (axes_walk vs t off)).mono ?_
 rintro e W' ⟨v,val,H',nm',ρ',rfl,⟨rfl,hle⟩,hm,hc,hd⟩
 have n0:ρ'.n 0=some b:=hm.le.n 0 b (by simp[ρ0,Names.noD])
 obtain⟨us,⟨x,y,rfl,⟨b1,e1,rfl⟩,x2,y2,rfl,⟨b2,e2,rfl⟩,rfl⟩,rfl⟩:=hd
 obtain rfl:b=b1:=Oi (n0.symm.trans e1)
 obtain rfl:b=b2:=Oi (n0.symm.trans e2)
 refine⟨rfl,hm.keep.os,hm.keep.tape,hm.keep.output,hm.keep.size,fun x hx=>?_⟩
 by_cases e:x=b
 ·subst e
  obtain⟨b',us,k1,k2,k3,-⟩:=hc 0 _ (hle 0 _ rfl)
  obtain rfl:x=b':=Oi (n0.symm.trans k1)
  obtain rfl:=m6 k2
  exact(show W'.heap[x]? = _ from k3).trans (show W.heap[x]? = _ from hb).symm
 ·refine hm.keep.block x hx fun hmn=>?_
  rcases hmn with ⟨n,ho⟩|ho
  ·exact e ((ow n x).1 ho).2
  ·exact ho
def axesG(H:bd)(_:Nat):List SV→Option DR
 | [.p n off]=>match look H n with
  | some (.lay _ _)=>some ⟨none,.agg [.p n (off+0),.p n (off+1)],none,false⟩
  | _=>none
 | _=>none
set_option maxRecDepth 100000 in
noncomputable def eE:Con cx where
 f:=125
 en:=Tryz.call125
 ns:=dG mi.hf mi.hB
 run:=fun _=>none
 fresh:=false
 own:=none
 eff:=some axesG
 ok:=fun ze W args vs ob out hG hz hd hr ho=>by cases hr
 effOk:=fun g hg ρ W H nm args vs r hok hfr hd hr ho=>by
  obtain rfl:=Oi hg
  unfold axesG at hr
  split at hr
  ·rename_i n off
   split at hr
   ·rename_i cs t hl
    obtain rfl:=Oi hr
    obtain⟨x,y,rfl,⟨b,hb,rfl⟩,rfl⟩:=hd
    obtain⟨b',us,k1,k2,k3,k4,-⟩:=hok.blk n _ hl
    obtain rfl:b=b':=Oi (hb.symm.trans k1)
    refine(axes_calls hok.hb.grd (hok.hb.low n b (.inl hb)).1 k3 k4).mono ?_
    rintro e W' ⟨rfl,hg⟩
    exact⟨_,rfl,ρ,⟨.refl ρ,fun _ _ h=>.inl h,fun _ _ h=>.inl h,fun _ _ _ h=>.inl h,fun _ _=>rfl,hg.os,hg.tape,hg.output,hg.size,fun x hx _=>hg.block x hx,hok.hb.gr hg⟩,fun _ _ h=>(by cases h),⟨_,⟨_,_,rfl,⟨b,hb,rfl⟩,_,_,rfl,⟨b,hb,rfl⟩,rfl⟩,rfl⟩⟩
   ·cases hr
  ·cases hr
noncomputable def inEnds:FnI cx:=⟨187,Tryz.call187,Tryz.f187,Tryz.func187,[],[],[],0,by kernel_rfl⟩
noncomputable def inBodies:FnI cx:=⟨191,Tryz.call191,Tryz.f191,Tryz.func191,[],[],[],0,by kernel_rfl⟩
noncomputable def itEnds:FnI cx:=⟨230,Tryz.call230,Tryz.f230,Tryz.func230,[],[],[],2,by kernel_rfl⟩
noncomputable def mS:FnI cx:=⟨235,Tryz.call235,Tryz.f235,Tryz.func235,[1003],[],[],3,by kernel_rfl⟩
noncomputable def rnF:List (FnI cx):=[inEnds,inBodies]
noncomputable def rB:Code:=fN Tryz.f126
noncomputable def r1:Code:=sq2 rB
noncomputable def r2:Code:=sq2 r1
noncomputable def r3:Code:=sq2 r2
noncomputable def r4:Code:=sq2 r3
noncomputable def r5:Code:=sq2 r4
noncomputable def preR:Code:=.seq (sq1 rB) (.seq (sq1 r1) (.seq (sq1 r2) (sq1 (sq1 r3))))
def posA(m:Mov)(a:Nat):Int:=match a with|0=>m.bPosX|_=>m.bPosY
def wallR(m:Mov)(a:Nat):Int:=1048576-m.sign*posA m a
def iS(m:Mov)(a:Nat)(most:Int):Int:=min most (wallR m a)+1
def ctR1(m:Mov)(a:Nat)(most:Int):Cut:=⟨Unit,fun _=>True,fun _=>⟨[sl 2 (.p 0 0),sl 3 (.p 1 0),sl 7 (.p 2 0),sl 8 (.p 3 0),sl 30 (.f (.func 230) [] [.p 4 0])],[(0,.lay m.cells 216),(1,.lay [i64 most] 3),(2,.lay [i64 (iS m a most)] 3),(3,.lay [.il .i64 (-1)] 3),(4,.lay m.cells 216)],5,0,[],[]⟩,fun _=>0⟩
structure Mov.Ok (m:Mov) (a:Nat) (most:Int):Prop where
 ax:m.axis=a
 sg:m.sign=1∨m.sign = -1
 p0 : -1048576≤posA m a
 p1:posA m a≤1048576
 m0:0≤most
 m1:most≤8192
 nr:m.sRopes.n=0
 nb:m.sBodies.n≤1
 me:∀i,i<m.sBodies.n→(m.sBodies.e i).iD=m.bID
set_option maxRecDepth 100000 in
theorem preR_ev0(m:Mov)(most:Int)(h:m.Ok 0 most):ev (C:=cx) [eE] 68 0 (ku (C:=cx) [eE] rnF 2) (gF rnF) ⟨[],[],[],1⟩ preR ⟨cu 0 [m.sv,i64 most],[],0,0,[],[]⟩ (fun x st=>x=.normal∧(ctR1 m 0 most).at_ 0 st fun _=>True):=by
 obtain⟨b,r,gx,gy,i,px,py,vx,vy,w,hh,rd,fx,ax,s⟩:=m
 obtain⟨h1,h2,h3,h4,h5,h6,-,-,-⟩:=h
 obtain rfl:ax=0:=h1
 replace h2:s=1∨s = -1:=h2
 replace h3 : -1048576≤px:=h3
 replace h4:px≤1048576:=h4
 refine Ai (show InR (s*px) by unfold InR;rcases h2 with rfl|rfl<;>omega) ?_
 refine Ai (show InR (1048576-s*px) by unfold InR;rcases h2 with rfl|rfl<;>omega) ?_
 refine Ai ?_ ?_
 ·show InR (min most (1048576-s*px)+1)
  unfold InR;rcases h2 with rfl|rfl<;>omega
 refine⟨rfl,(),[],[],trivial,trivial,?_⟩
 repeat' (first|(refine Ai ?_ ?_)|(intro _)|exact rfl)
set_option maxRecDepth 100000 in
theorem preR_ev1(m:Mov)(most:Int)(h:m.Ok 1 most):ev (C:=cx) [eE] 68 0 (ku (C:=cx) [eE] rnF 2) (gF rnF) ⟨[],[],[],1⟩ preR ⟨cu 0 [m.sv,i64 most],[],0,0,[],[]⟩ (fun x st=>x=.normal∧(ctR1 m 1 most).at_ 0 st fun _=>True):=by
 obtain⟨b,r,gx,gy,i,px,py,vx,vy,w,hh,rd,fx,ax,s⟩:=m
 obtain⟨h1,h2,h3,h4,h5,h6,-,-,-⟩:=h
 obtain rfl:ax=1:=h1
 replace h2:s=1∨s = -1:=h2
 replace h3 : -1048576≤py:=h3
 replace h4:py≤1048576:=h4
 refine Ai (show InR (s*py) by unfold InR;rcases h2 with rfl|rfl<;>omega) ?_
 refine Ai (show InR (1048576-s*py) by unfold InR;rcases h2 with rfl|rfl<;>omega) ?_
 refine Ai ?_ ?_
 ·show InR (min most (1048576-s*py)+1)
  unfold InR;rcases h2 with rfl|rfl<;>omega
 refine⟨rfl,(),[],[],trivial,trivial,?_⟩
 repeat' (first|(refine Ai ?_ ?_)|(intro _)|exact rfl)
noncomputable def rngE:Code:=sq2 (sq1 r3)
noncomputable def rngB:Code:=sq2 (sq1 r4)
def rfP:Code→Array Tmp|.block _ (.rangeFunc _ p _ _)=>p|_=>#[]
noncomputable def rfA:Code→Code|.block _ (.rangeFunc _ _ a _)=>a|_=>.skip
noncomputable def rfB:Code→Code|.block _ (.rangeFunc _ _ _ b)=>b|_=>.skip
theorem rB_is:rB=.seq (sq1 rB) r1:=by kernel_rfl
theorem r1_is:r1=.seq (sq1 r1) r2:=by kernel_rfl
theorem r2_is:r2=.seq (sq1 r2) r3:=by kernel_rfl
theorem r3_is:r3=.seq (.seq (sq1 (sq1 r3)) rngE) r4:=by kernel_rfl
theorem r4_is:r4=.seq (.seq (sq1 (sq1 r4)) rngB) r5:=by kernel_rfl
theorem rngE_is:rngE=.block 0 (.rangeFunc (.tmp 30) (rfP rngE) (rfA rngE) (rfB rngE)):=by kernel_rfl
theorem rngB_is:rngB=.block 2 (.rangeFunc (.tmp 39) (rfP rngB) (rfA rngB) (rfB rngB)):=by kernel_rfl
noncomputable def ieB:Code:=fN itEnds.fn
noncomputable def ibB:Code:=fN mS.fn
set_option maxRecDepth 100000 in
theorem ends_ev(m:Mov)(a:Nat)(most:Int)(hn:m.sRopes.n=0)(l:Nat):ev (C:=cx) [] itEnds.fn.ntmps 5 (ku (C:=cx) [] [] 0) (gF (C:=cx) []) ⟨[],[],[],2⟩ ieB ⟨cu 0 [.v (.func (.yield l) #[] #[]),.p 4 0],((ctR1 m a most).J ()).H,5,0,[],[]⟩ (endK cx itEnds.fn.results.toList fun _ H' nm'=>ck ((ctR1 m a most).J ()).H H'∧Nat.ble nm' 5=true):=by
 obtain⟨b,⟨n,r⟩,gx,gy,i,px,py,vx,vy,w,hh,rd,fx,ax,s⟩:=m
 obtain rfl:n=0:=hn
 refine Ai (fun hb=>absurd (show decide ((0:Int)<0)=true from hb) (by decide)) (fun hb=>?_)
 exact⟨ck.refl _,rfl⟩
def ctR2(m:Mov)(a:Nat)(most:Int):Cut:=⟨Unit,fun _=>True,fun _=>⟨[sl 7 (.p 2 0),sl 8 (.p 3 0),sl 39 (.f (.func 235) [] [.p 5 0])],[(2,.lay [i64 (iS m a most)] 3),(3,.lay [.il .i64 (-1)] 3),(5,.lay m.cells 216)],6,0,[],[]⟩,fun _=>0⟩
set_option maxRecDepth 100000 in
theorem mid_ev(m:Mov)(a:Nat)(most:Int):ev (C:=cx) [eE] 68 5 (ku (C:=cx) [eE] rnF 2) (gF rnF) ⟨[],[],[],1⟩ (sq1 (sq1 r4)) ((ctR1 m a most).J ()) (fun x st=>x=.normal∧(ctR2 m a most).at_ 5 st fun _=>True):=by
 refine⟨rfl,(),[],[],trivial,trivial,?_⟩
 repeat' (first|(refine Ai ?_ ?_)|(intro _)|exact rfl)
set_option maxRecDepth 100000 in
theorem bodies_ev(m:Mov)(a:Nat)(most:Int)(hn:m.sBodies.n≤1)(hm:∀i,i<m.sBodies.n→(m.sBodies.e i).iD=m.bID)(l:Nat):ev (C:=cx) [] mS.fn.ntmps 6 (ku (C:=cx) [] [] 0) (gF (C:=cx) []) ⟨[1003],[],[],3⟩ ibB ⟨cu 0 [.v (.func (.yield l) #[] #[]),.p 5 0],((ctR2 m a most).J ()).H,6,0,[],[]⟩ (endK cx mS.fn.results.toList fun _ H' nm'=>ck ((ctR2 m a most).J ()).H H'∧Nat.ble nm' 7=true):=by
 obtain⟨⟨n,e⟩,r,gx,gy,i,px,py,vx,vy,w,hh,rd,fx,ax,s⟩:=m
 replace hn:n≤1:=hn
 rcases Nat.lt_or_ge 0 n with hp|hp
 ·obtain rfl:n=1:=by omega
  have hi:(e 0).iD=i:=hm 0 (Nat.zero_lt_one)
  refine Ai (fun hb=>?_) (fun hb=>absurd (show decide ((0:Int)<1)=false from hb) (by decide))
  refine Ai ⟨(by decide:(0:Int)≤0),(by decide:(0:Int)<1)⟩ ?_
  refine Ai (fun hb=>absurd hi (Od (show decide (¬(e 0).iD=i)=true from hb))) (fun hb=>?_)
  repeat' (first|exact ck.cons (ck.cons (ck.refl _) rfl) rfl|(refine Ai ?_ ?_)|(intro hh;exact absurd (show decide ((1:Int)<1)=true from hh) (by decide))|(intro _)|exact rfl)
 ·obtain rfl:n=0:=by omega
  refine Ai (fun hb=>absurd (show decide ((0:Int)<0)=true from hb) (by decide)) (fun hb=>?_)
  exact⟨ck.refl _,rfl⟩
def runF(m:Mov)(a:Nat)(most:Int):Int:=min most (wallR m a)
def runOut(m:Mov)(a:Nat)(most:Int):SV:=.tup [.v (.int .i64 (runF m a most)),.v (.int .i64 (-1))]
set_option maxRecDepth 100000 in
theorem tailR_ev(m:Mov)(a:Nat)(most:Int)(h : -1048576≤iS m a most∧iS m a most≤4194304):ev (C:=cx) [eE] 68 7 (ku (C:=cx) [eE] rnF 2) (gF rnF) ⟨[],[],[],1⟩ r5 ⟨((ctR2 m a most).J ()).sl,((ctR2 m a most).J ()).H,7,((ctR2 m a most).J ()).rg,[],[]⟩ (fun e st=>e=.ret∧finK cx Tryz.f126.results.toList st fun v=>ai (runOut m a most) st.H v):=by
 refine Ai (show InR (iS m a most-1) by unfold InR;omega) ?_
 repeat' (first|(refine Ai ?_ ?_)|(intro _)|exact rfl)
 ·show runF m a most=iS m a most-1
  unfold runF iS;omega
theorem first_bd{m:Mov}{a:Nat}{most:Int}(h:m.Ok a most) : -1048576≤iS m a most∧iS m a most≤4194304:=by
 obtain⟨h1,h2,h3,h4,h5,h6,-,-,-⟩:=h
 unfold iS wallR
 rcases h2 with h2|h2<;>rw[h2]<;>omega
set_option maxRecDepth 100000 in
set_option maxHeartbeats 1000000 in
theorem run_calls{m:Mov}{a:Nat}{most:Int}(h:m.Ok a most)(ha:a<2){ze:Nat→Nat→Value→Prop}{W:World}{vs:List Value}(hG:cx.Grd W)(hz:∀b i c,ze b i c→W.cell? ⟨b,i,none⟩=some c∧c.oneCell'=true)(hd:aj (ba ze) [m.sv,i64 most] vs) :
  bP Tryz.prog false 126 vs.toArray W fun e W'=>∃v val H' nm' ρ',e=.returned val∧ai (runOut m a most) H' v∧Mem cx W (ba ze).noD nm' ρ' W'∧(∀n sb,look H' n=some sb→da ρ' W' n sb)∧den ρ' v val:=by
 intro E hE cs hret
 have hpre:ev (C:=cx) [eE] 68 0 (ku (C:=cx) [eE] rnF 2) (gF rnF) ⟨[],[],[],1⟩ preR ⟨cu 0 [m.sv,i64 most],[],0,0,[],[]⟩ (fun x st=>x=.normal∧(ctR1 m a most).at_ 0 st fun _=>True):=by
  rcases Nat.lt_or_ge a 1 with h1|h1
  ·obtain rfl:a=0:=by omega
   exact preR_ev0 m most h
  ·obtain rfl:a=1:=by omega
   exact preR_ev1 m most h
 refine oP hE Tryz.func126 (c:=rB) (by kernel_rfl) hret ?_
 intro k h3
 have hb:(fK 126).kind≠.early:=by decide
 have hro:(fK 126).roundOf=none:=rfl
 have hI:=dH (C:=cx) (Γ:=[eE]) (Fs:=rnF) follows 2
 have hnt:Tryz.f126.ntmps=68:=by kernel_rfl
 rw[hnt]
 have A0:=atr_start (C:=cx) (n:=68) (show ([m.sv,i64 most]:List SV).length≤68 from(by decide:2≤68)) hG hz hd
 refine atr_seq (h:=⟨[],[],[],1⟩) hE hI follows hb hro rB_is rfl (by kernel_rfl) A0 hpre (fun _ _ h=>h.1) fun st1 ρ1 a1 W1 he1 A1=>?_
 refine atr_seq (h:=⟨[],[],[],1⟩) hE hI follows hb hro r1_is rfl (by kernel_rfl) A1 he1 (fun _ _ h=>h.1) fun st2 ρ2 a2 W2 he2 A2=>?_
 refine atr_seq (h:=⟨[],[],[],1⟩) hE hI follows hb hro r2_is rfl (by kernel_rfl) A2 he2 (fun _ _ h=>h.1) fun st3 ρ3 a3 W3 he3 A3=>?_
 rw[r3_is]
 refine e_seq hE ?_
 refine atr_cut (h:=⟨[],[],[],1⟩) hE hI follows hb hro rfl (by kernel_rfl) A3 he3 fun u ρ4 a4 W4 _ A4=>?_
 rw[rngE_is]
 refine e_block hE ?_
 refine atr_range0 (Γ:=[]) (Fs:=[]) (d:=0) (m:=5) hE follows hb hro A4 itEnds (cap:=[.p 4 0]) rfl (code:=ieB) (by kernel_rfl) (by kernel_rfl) (fun l=>ends_ev m a most h.nr l) fun D1 ρ5 a5 W5 A5=>?_
 refine jd hE ?_
 rw[r4_is]
 refine e_seq hE ?_
 refine atr_cut (h:=⟨[],[],[],1⟩) hE hI follows hb hro rfl (by kernel_rfl) A5 (mid_ev m a most) fun u2 ρ6 a6 W6 _ A6=>?_
 rw[rngB_is]
 refine e_block hE ?_
 refine atr_range0 (Γ:=[]) (Fs:=[]) (d:=0) (m:=7) hE follows hb hro A6 mS (cap:=[.p 5 0]) rfl (code:=ibB) (by kernel_rfl) (by kernel_rfl) (fun l=>bodies_ev m a most h.nb h.me l) fun D2 ρ7 a7 W7 A7=>?_
 refine jd hE ?_
 refine oa (h:=⟨[],[],[],1⟩) hE hI follows hb hro (by kernel_rfl) A7 (tailR_ev m a most (first_bd h)) fun e st8 ρ8 a8 W8 hk A8=>?_
 have hend:finK cx Tryz.f126.results.toList st8 (fun v=>ai (runOut m a most) st8.H v)→∀todo,E (G { (fK 126).at a8 todo with mode:=.returning} cs) W8:=fun hk todo=>by
  refine atr_end' (K:=fun v H _=>ai (runOut m a most) H v) hE Tryz.func126 hk (fun v W' fr ⟨v',H',nm',ρ',q1,q2,q3,q4⟩ hfn hl=>?_) todo (ρe:=(ba ze).noD) (fun b h=>by cases h) A8
  exact hret (.returned v) W' fr ⟨v',v,H',nm',ρ',rfl,q1,q2,q3,q4⟩ hfn hl
 obtain⟨rfl,hk⟩:=hk
 exact⟨trivial,hend hk⟩
set_option maxRecDepth 100000 in
noncomputable def conRun:Con cx:=mkCon 126 Tryz.call126 (dG (fl:=[]) (fn:=Tryz.f126) Tryz.func126 (by kernel_rfl)) (aV rdMov (rdI .i64)) (fun x=>[x.1.axis=0∨x.1.axis=1,x.1.Ok x.1.axis.toNat x.2]) (fun x=>runOut x.1 x.1.axis.toNat x.2) fun x ze W vs hp hG hz hd=>by
 obtain⟨m,most⟩:=x
 obtain⟨hx,h⟩:=hp
 replace hx:m.axis=0∨m.axis=1:=hx
 replace h:m.Ok m.axis.toNat most:=h
 refine(run_calls h (by rcases hx with e|e<;>rw[e]<;>decide) hG hz hd).mono fun e W' ⟨v,val,H',nm',ρ',h1,h2,h3,h4,h5⟩=>?_
 obtain⟨q1,q2,q3⟩:=fn_endR h2 h3 h4 h5
 exact⟨val,(zR ρ' W').z,h1,q1,q2,q3⟩
end Go.Proofs.YtgigkennhdolpaaGreatDoor
