/- step.World of at most one body. Company: the library's functions that this program holds, by their numbers. (What the kit's tool would print; by program.) -/
import Derived.Test.YtgigkennhdolpaaGreatDoorM37
import Derived.Test.YtgigkennhdolpaaGreatDoorM34
import Derived.Test.YtgigkennhdolpaaGreatDoorProg
import Derived.Test.YtgigkennhdolpaaGreatDoorM23
import Derived.KernelRfl
namespace Go.Proofs.YtgigkennhdolpaaGreatDoor
open Go.RowKit
def scnW(w:Wor)(g:Vec):Scn:=⟨⟨(bu w.l w.l.n).length,fP (bu w.l w.l.n)⟩,Rps.of (.v (.slice none 0 0)),g.x,g.y⟩
theorem filtM_in{α:Type}{f:Nat→α}{g:Nat→Bool}{x:α} : ∀{k:Nat},x∈gH f g k→∃i,i<k∧g i=true∧x=f i
 | 0,h=>by cases h
 | k+1,h=>by
  cases hg:g k with
  | true=>
   rw[gX hg] at h
   rcases List.mem_append.1 h with h|h
   ·obtain⟨i,h1,h2⟩:=filtM_in h;exact⟨i,by omega,h2⟩
   ·exact⟨k,by omega,hg,List.mem_singleton.1 h⟩
  | false=>
   rw[jb hg] at h
   obtain⟨i,h1,h2⟩:=filtM_in h;exact⟨i,by omega,h2⟩
theorem okI_of{lo hi x:Int}(h:lo≤x∧x≤hi):okI lo hi x=true:=by
 unfold okI;rw[decide_eq_false (by omega),decide_eq_false (by omega)];rfl
theorem okI2_of{lo hi x y:Int}(h:lo≤x∧x≤hi)(h':lo≤y∧y≤hi):oW lo hi x y=true:=by
 unfold oW;rw[decide_eq_false (by omega),decide_eq_false (by omega),okI_of h'];rfl
theorem body_ok{e:Ent}(h:e.Right)(hb:(bJ e).2=true):(bJ e).1.ok=true:=by
 have hc:((bm e.l 1).2&&(bm e.l 3).2)=true:=by
  unfold bJ at hb
  cases hc:((bm e.l 1).2&&(bm e.l 3).2) with
  | true=>rfl
  | false=>rw[hc] at hb;exact absurd (show false=true from hb) (by decide)
 have e1:(bJ e).1=jh e:=by unfold bJ;rw[hc]
 obtain⟨c1,c3⟩:=Bool.and_eq_true_iff.1 hc
 rw[ik] at c1 c3
 obtain⟨k1,f1,-⟩:=gq h c1
 obtain⟨k3,f3,-⟩:=gq h c3
 rw[←cmpF_at c1] at k1 f1
 rw[←cmpF_at c3] at k3 f3
 obtain⟨p1,p2,p3,p4,-⟩:=f1.2.2.1 k1
 obtain⟨s1,s2,s3,s4,s5,s6,s7,s8⟩:=f3.2.2.2.2.1 k3
 have hr:=f3.2.2.2.2.2.2.2.2.2.2.2.2.1 k3
 have hI:=h.lo
 have hI':=h.hi
 rw[e1]
 have hR:∀b:Body,b.iD=e.iD→b.posX=(bm e.l 1).1.v0→b.posY=(bm e.l 1).1.v1→b.w=(bm e.l 3).1.v0→b.h=(bm e.l 3).1.v1→b.round=decide ((bm e.l 3).1.v2=1)→(-4096≤b.velX∧b.velX≤4096)→(-4096≤b.velY∧b.velY≤4096)→(b.fixed=true→b.velX=0∧b.velY=0)→b.ok=true:=by
  intro b h1 h2 h3 h4 h5 h6 h7 h8 h9
  have hbad:b.bad1=false:=by
   unfold Body.bad1
   rw[okI_of (by omega),okI2_of (by omega) (by omega),okI2_of h7 h8,okI2_of (by omega) (by omega)];rfl
  unfold Body.ok
  rw[hbad]
  have g1:(!b.round||decide (b.w=b.h))=true:=by
   rw[h6]
   rcases hr with hr|hr
   ·rw[decide_eq_false (by omega)];rfl
   ·rw[decide_eq_true (by omega:b.w=b.h),Bool.or_true]
  have g2:(!b.fixed||(decide (b.velX=0)&&decide (b.velY=0)))=true:=by
   cases hx:b.fixed with
   | false=>rfl
   | true=>obtain⟨q1,q2⟩:=h9 hx;rw[q1,q2];rfl
  show ((!b.round||decide (b.w=b.h))&&(!b.fixed||(decide (b.velX=0)&&decide (b.velY=0))))=true
  rw[g1,g2];rfl
 unfold jh
 cases hf:oL e with
 | true=>exact hR _ rfl rfl rfl rfl rfl rfl ⟨(show (-4096:Int)≤0 by decide),(show (0:Int)≤4096 by decide)⟩ ⟨(show (-4096:Int)≤0 by decide),(show (0:Int)≤4096 by decide)⟩ (fun _=>⟨rfl,rfl⟩)
 | false=>
  have h2:(bm e.l 2).2=true:=by
   unfold oL at hf
   have:=(Bool.or_eq_false_iff.1 hf).2
   simpa using this
  rw[ik] at h2
  obtain⟨k2,f2,-⟩:=gq h h2
  rw[←cmpF_at h2] at k2 f2
  obtain⟨v1,v2,v3,v4,-⟩:=f2.2.2.2.1 k2
  exact hR _ rfl rfl rfl rfl rfl rfl ⟨v1,v2⟩ ⟨v3,v4⟩ (fun h=>absurd h Bool.false_ne_true)
theorem bodies_ok{w:Wor}{g:Vec}(h:w.Valid):∀i,i<(scnW w g).bodies.n→((scnW w g).bodies.e i).ok=true:=by
 intro i hi
 have hi:i<(bu w.l w.l.n).length:=hi
 have hm:fP (bu w.l w.l.n) i∈bu w.l w.l.n:=by
  unfold fP
  rw[List.getD_eq_getElem?_getD,List.getElem?_eq_getElem hi]
  exact List.getElem_mem hi
 obtain⟨j,h1,h2,h3⟩:=filtM_in hm
 show (fP (bu w.l w.l.n) i).ok=true
 rw[h3]
 exact body_ok (h.right j h1) h2
set_option maxHeartbeats 2000000 in
set_option maxRecDepth 8000 in
theorem StWorld_walk:∀a,aK ((fun a=>[a.1.valid=true,a.1.l.Sm,a.2.1.n=0,(bu a.1.l a.1.l.n).length≤1,gOk a.2.2]) a)→aX (C:=cx) [conBodies,conStep,conBack] [] 0 aw Tryz.f44 ((dO cP rdRps dW).enc a) fun v H _=>ai ((fun a=>.tup [(iL (stepS (scnW a.1 a.2.2)) a.1).sv,(l7 (lZ (scnW a.1 a.2.2))).sv,.v (.int .i64 0)]) a) H v:=by
 intro⟨w,r,g⟩ ⟨hv,hs,hx,hb,hg⟩
 replace hv:w.valid=true:=hv
 replace hs:w.l.Sm:=hs
 replace hx:r.n=0:=hx
 replace hb:(bu w.l w.l.n).length≤1:=hb
 replace hg:gOk g:=hg
 have hV:=Wor.dq.1 hv
 have hlen:=hV.len
 refine Ai ⟨by repeat' (first|exact trivial|exact rfl|refine Ai ?_ ?_|intro _),by repeat' (first|exact trivial|exact rfl|refine Ai ?_ ?_|intro _),hs,by show w.l.n≤1000;omega,hx⟩ ?_
 refine Ai ⟨by repeat' (first|exact trivial|exact rfl|refine Ai ?_ ?_|intro _),hg,rfl,hb,bodies_ok (g:=g) hV⟩ ?_
 refine Ai (fun hc=>absurd (show decide (¬(0:Int)=0)=true from hc) (by decide)) (fun _=>?_)
 refine Ai ⟨by repeat' (first|exact trivial|exact rfl|refine Ai ?_ ?_|intro _),by repeat' (first|exact trivial|exact rfl|refine Ai ?_ ?_|intro _),by repeat' (first|exact trivial|exact rfl|refine Ai ?_ ?_|intro _),hv,hs,hb⟩ ?_
 have hS:(bM oz).dec [SV.agg [SV.rs 9 (bu w.l w.l.n).length (fun i=>(fP (bu w.l w.l.n) i).cells),.v (.slice none 0 0),.v (.int .i64 g.x),.v (.int .i64 g.y)]]=scnW w g:=rfl
 have hD:(aV cP oz).dec [w.sv,(stepS (scnW w g)).sv]=(w,stepS (scnW w g)):=rfl
 repeat' (first|(refine Ai ?_ ?_)|(intro _))
 any_goals exact(rfl:(0:Int)=0)
 all_goals first
  | exact congrArg (fun p:Wor×Scn=>(iL p.2 p.1).tick) hD.symm
  | exact congrArg (fun p:Wor×Scn=>(iL p.2 p.1).l.n) hD.symm
  | exact congrArg (fun p:Wor×Scn=>((iL p.2 p.1).l.e _).iD) hD.symm
  | exact congrArg (fun p:Wor×Scn=>((iL p.2 p.1).l.e _).l.n) hD.symm
  | exact congrArg (fun p:Wor×Scn=>(((iL p.2 p.1).l.e _).l.c _).kind) hD.symm
  | exact congrArg (fun p:Wor×Scn=>(((iL p.2 p.1).l.e _).l.c _).v0) hD.symm
  | exact congrArg (fun p:Wor×Scn=>(((iL p.2 p.1).l.e _).l.c _).v1) hD.symm
  | exact congrArg (fun p:Wor×Scn=>(((iL p.2 p.1).l.e _).l.c _).v2) hD.symm
  | exact congrArg (fun p:Wor×Scn=>(((iL p.2 p.1).l.e _).l.c _).v3) hD.symm
  | exact congrArg (fun s:Scn=>(l7 (lZ s)).n) hS.symm
  | exact congrArg (fun s:Scn=>((l7 (lZ s)).e _).iD) hS.symm
  | exact congrArg (fun s:Scn=>((l7 (lZ s)).e _).along) hS.symm
  | exact congrArg (fun s:Scn=>((l7 (lZ s)).e _).byI) hS.symm
end Go.Proofs.YtgigkennhdolpaaGreatDoor
namespace Go.Proofs.YtgigkennhdolpaaGreatDoor
abbrev link:Go.Conc.Lib.WgLink:={add:=113,done:=115,wait:=117,relMerge:=157,disable:=158,enable:=159,inBubble:=160,associate:=161,fatal:=162,uOr:=163,uAdd:=164,raceRead:=165,uLoad:=166,uStore:=167,disassociate:=168,semrelease:=169,acquire:=172,isAssociated:=173,uCas:=174,raceWrite:=175,semacquire:=176,orU64:=210,addU64:=211,loadU64:=212,storeU64:=213,casU64:=216,tWgP:=260,tUP:=262,tAssoc:=263,tWg:=198,tAU:=196,tU64:=31,tUint:=240,tU32:=59,tPU32:=267,tPAU:=313,tPU64:=315,tNoCopy:=192,tANoCopy:=193,tAlign64:=194}
theorem wgLib:Go.Conc.Lib.WgLib Tryz.prog link:=
 ⟨Tryz.func113,Tryz.func115,Tryz.func117,Tryz.func157,Tryz.func158,Tryz.func159,Tryz.func160,Tryz.func161,Tryz.func162,Tryz.func163,Tryz.func164,Tryz.func165,Tryz.func166,Tryz.func167,Tryz.func168,Tryz.func169,Tryz.func172,Tryz.func173,Tryz.func174,Tryz.func175,Tryz.func176,Tryz.func210,Tryz.func211,Tryz.func212,Tryz.func213,Tryz.func216,Tryz.underlying260,Tryz.runUnderlying260,Tryz.sizeOf260,Tryz.isAgg260,Tryz.zeroValue260,Tryz.underlying262,Tryz.runUnderlying262,Tryz.sizeOf262,Tryz.isAgg262,Tryz.zeroValue262,Tryz.underlying263,Tryz.runUnderlying263,Tryz.sizeOf263,Tryz.isAgg263,Tryz.zeroValue263,Tryz.underlying198,Tryz.runUnderlying198,Tryz.sizeOf198,Tryz.isAgg198,Tryz.zeroValue198,Tryz.underlying196,Tryz.runUnderlying196,Tryz.sizeOf196,Tryz.isAgg196,Tryz.zeroValue196,Tryz.underlying31,Tryz.runUnderlying31,Tryz.sizeOf31,Tryz.isAgg31,Tryz.zeroValue31,Tryz.underlying240,Tryz.runUnderlying240,Tryz.sizeOf240,Tryz.isAgg240,Tryz.zeroValue240,Tryz.underlying59,Tryz.runUnderlying59,Tryz.sizeOf59,Tryz.isAgg59,Tryz.zeroValue59,Tryz.underlying267,Tryz.runUnderlying267,Tryz.sizeOf267,Tryz.isAgg267,Tryz.zeroValue267,Tryz.underlying313,Tryz.runUnderlying313,Tryz.sizeOf313,Tryz.isAgg313,Tryz.zeroValue313,Tryz.underlying315,Tryz.runUnderlying315,Tryz.sizeOf315,Tryz.isAgg315,Tryz.zeroValue315,Tryz.underlying0,Tryz.runUnderlying0,Tryz.sizeOf0,Tryz.isAgg0,Tryz.zeroValue0,Tryz.underlying3,Tryz.runUnderlying3,Tryz.sizeOf3,Tryz.isAgg3,Tryz.zeroValue3,Tryz.underlying4,Tryz.runUnderlying4,Tryz.sizeOf4,Tryz.isAgg4,Tryz.zeroValue4,Tryz.underlying9,Tryz.runUnderlying9,Tryz.sizeOf9,Tryz.isAgg9,Tryz.zeroValue9,Tryz.underlying20,Tryz.runUnderlying20,Tryz.sizeOf20,Tryz.isAgg20,Tryz.zeroValue20,Tryz.underlying21,Tryz.runUnderlying21,Tryz.sizeOf21,Tryz.isAgg21,Tryz.zeroValue21,(by kernel_rfl),(by kernel_rfl)⟩
end Go.Proofs.YtgigkennhdolpaaGreatDoor
