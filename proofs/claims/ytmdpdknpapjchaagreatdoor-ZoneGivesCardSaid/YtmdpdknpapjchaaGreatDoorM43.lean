/- Company, 44: a goroutine's first step and. -/
import Derived.Test.YtmdpdknpapjchaaGreatDoorM41
import Derived.Test.YtmdpdknpapjchaaGreatDoorM42
set_option linter.all false
namespace Go.Proofs.YtmdpdknpapjchaaGreatDoor
set_option maxRecDepth 100000
noncomputable section
open Go.Conc Go.RowKit
variable {a:Act}{after:Array Edge}{ops:Array Oper}{co:Bool}{id:Int}{df:List Deferred}{N Wg XS Yc b3 b4 b9 c i j k n t:Nat}{p:Option Addr}{P:Program}{pos:String}{ti:TI}{v:Value}{Wm:World}
def pE(P:Program):Frame:={ (default:Frame) with fn:=P.funcs.size,defers:=[],mode:=.panicking [goexitEntry]}
section
variable {d:Deferred}{f:FuncId}{fn:Func}{c:Code}{xs cap:Array Value}{main:Bool}{w:World}{b:Frame}{todo:List Item}
theorem HV(hd:d = {target:=.fn (.func f) cap,args:=xs})(hf:P.funcs[f]? = some fn) (hname:(fn.name== "runtime.NumGoroutine")=false) (hb:fn.body=some c) :
  stepG P main (born P d) w=.go (G ((baseD f).at {tmps:=(xs++cap)++Array.replicate (fn.ntmps-(xs++cap).size) undef,defers:=[]} [.code c]) [pE P]) w #[]:=by
 have h1:¬fn.name = "runtime.NumGoroutine":=by simpa using hname
 rw[<-enter_atD (xs++cap) hf hb];subst hd;simp[born,pE,G,stepG,unwind,callDeferred,invoke,callFunc,hf,h1,hb,GStep.after,seen_none]
theorem CH(hk:b.kind=.deferred)(hd:a.defers=[])(hf:P.funcs[b.fn]? = some fn)(hr:fn.results=#[]):QuitsD P 2 0 (G {b.at a todo with mode:=.returning} [pE P]):=by refine .inr ⟨rfl,{frame:={pE P with mode:=.panicking [goexitEntry]},callers:=[],status:=.running,dying:=none},#[],by simp,λw=>?_,.inr ⟨rfl,{frame:={pE P with mode:=.panicking [goexitEntry]},callers:=[],status:=.finished,dying:=none},#[],by simp,λw=>?_,rfl,rfl⟩⟩;simp[G,stepG,unwind,doReturn,Frame.at,hk,hd,hf,results_none hr _ P w,events_results_none hr _ _,seen,GStep.after,pE];rfl;simp[stepG,unwind,pE,goexitEntry,GStep.after];have h0:(default:Frame).todo=[]:=rfl;simp[Frame.catches,h0]
end
open Go.Conc.Lib Go.ConcR.Gen Go.ConcN.Gen
open Go.ConcR (KK wgBlock WgAt stA smA rd wr mk DC0)
def wB:Code:=eK Tryz.f95
def wX:Code:=lin (bin (X3 (X3 wB)))
def w0o:Array Oper:=Zj (X6 wB)
def w1o:Array Oper:=Zj (X6 (X3 wB))
def w2o:Array Oper:=Zj (X6 wX)
def w3o:Array Oper:=Zj (X6 (bin (X3 (X3 wX))))
def ZV:Array Oper:=Zj (X3 (bin (X3 (X3 wX))))
theorem Uy:wB=.seq (.region 0 w0o false) (.seq (.region 1 w1o false) (.block 0 (.loop wX))):=by kernel_rfl
theorem Ux:wX=.seq (.region 2 w2o false) (.seq (.cond (.tmp 9) .skip (.exit 0)) (.block 1 (.seq (.region 3 w3o false) (.region 4 ZV true)))):=by kernel_rfl
structure Xd (l:List (Nat×Value)) (c:Nat):Prop where
 free:∀t,8<=t∨t=6->look l t=none
 chan:look l 7=some (.chan (some c))
section
variable {l:List (Nat×Value)}{b:Frame}{cs:List Frame}{D:Goroutine->World->Prop}
theorem EZ{w:World}{ty:TypeId}(h:a.eval (.tmp 7)=.chan (some c)) :
  (execOp a.eval ⟨some 8,.recv 176 (.tmp 7) true,ty,pos,after,none⟩).run Tryz.prog w=.ok (.comm #[rcase c (.int .i64 0)] true (.recv true)) w∧(execOp a.eval ⟨some 8,.recv 176 (.tmp 7) true,ty,pos,after,none⟩).events Tryz.prog w #[]=#[]:=by
 constructor;simp[go_sem,execOp,run_underlying m7,Tryz.zeroValue3,rcase];simpa[Act.eval] using h;simp[go_sem,execOp,run_underlying m7,Tryz.zeroValue3,h]
set_option maxHeartbeats 1000000 in
theorem Gt(hb:b.kind≠.early)(hr:b.roundOf=none)(hl:Xd l c)(hD:∀{g W W1},D g W->Rv W W1->D g W1)
  (h4:∀i,i<N->∀a W,Rv Wm W->YC 30 a ((6,dE i)::l)->a.defers=df->wpJ Tryz.prog false (.region 4 ZV true) (λe a' W'=>e=.normal∧Rv Wm W'∧YC 30 a' l∧a'.defers=df) a W)
  (hend:∀a W,Rv Wm W->a.defers=df->Gs Tryz.prog D (G (b.at a []) cs) W) :
  ∀(m i:Nat),i+m=N->∀a W,Rv Wm W->YC 30 a l->a.defers=df->Gs Tryz.prog (RP Tryz.prog c D (sends i N) false) (G (b.at a (.code wX::.inLoop wX::.inBlock 0::[])) cs) W:=by
 have hO:Zl w2o 0=some (some 8,.recv 176 (.tmp 7) true,none):=by kernel_rfl
 obtain⟨ty,pos,after,ho⟩:=dO hO;have hre:∀(i:Nat) (a:Act) (W:World),YC 30 a l->(∀(E:Goroutine->World->Prop),Closed Tryz.prog false E->E (G (b.at a (.inRegion w2o [0,1]::.code (X3 wX)::.inLoop wX::.inBlock 0::[])) cs) W->E (G (b.at a (.code wX::.inLoop wX::.inBlock 0::[])) cs) W):=λi a W hS E hE h=>by refine b7 hE _ _ Ux ?_;exact aR hE _ _ 2 rfl (by kernel_rfl) h
 have hrc:∀(a:Act),YC 30 a l->Ii Tryz.prog c (.int .i64 0) (b.at a (.inRegion w2o [0,1]::.code (X3 wX)::.inLoop wX::.inBlock 0::[])) cs:=λa hS main w=>by refine(stepG_comm ho rfl hb (EZ (hS.ev hl.chan)).1).trans ?_;rw[listed_none (EZ (hS.ev hl.chan)).2]
 intro m
 induction m with
 | zero=>
  intro i hi a W r hS hdf;obtain rfl:i=N:=(by omega);rw[wh];refine hre i a W hS _ (dq λh r=>ig (D:=D) (λx y=>hD x y) h r) (.stop ⟨_,_,_,rfl,hrc a hS,?_⟩);rw[pX ho];have hE:=dq (P:=Tryz.prog) (Q:=D) (λh r=>hD h r);have Y6:YC 30 (a.put (some 8) (.tuple #[.int .i64 0,.bool false])) ((8,.tuple #[.int .i64 0,.bool false])::l):=hS.put (by decide) _;refine pZ (d:=9) (x:=.tmp 8) (kk:=1) hE hb (by kernel_rfl) Y6 (by decide) (Y6.ev rfl) (.bool false) rfl λa2 Zu ZN=>?_;refine aw hE ?_;refine b7 hE _ _ rfl ?_;refine s_cond hE 9 _ _ rfl Zu false (by rw[aA,Xl rfl]) ?_;refine s_exit hE 0 rfl [] rfl ?_;exact hend a2 W r (ZN.trans hdf)
 | succ m ih=>
  intro i hi a W r hS hdf;rw[tl (by omega)];refine hre i a W hS _ (dq λh r=>ig (D:=D) (λx y=>hD x y) h r) (.stop ⟨_,_,_,rfl,hrc a hS,?_⟩);rw[pX ho];have hE:=dq (P:=Tryz.prog) (Q:=RP Tryz.prog c D (sends (i+1) N) false) (λh r=>ig (D:=D) (λx y=>hD x y) h r);have Y6:YC 30 (a.put (some 8) (.tuple #[dE i,.bool true])) ((8,.tuple #[dE i,.bool true])::l):=hS.put (by decide) _;refine pZ (d:=9) (x:=.tmp 8) (kk:=1) hE hb (by kernel_rfl) Y6 (by decide) (Y6.ev rfl) (.bool true) rfl λa2 Zu ZN=>?_;refine aw hE ?_;refine b7 hE _ _ rfl ?_;refine s_cond hE 9 _ _ rfl Zu true (by rw[aA,Xl rfl]) ?_;refine k9 hE rfl ?_;refine lf hE 1 _ rfl ?_;refine b7 hE _ _ rfl ?_;refine aR hE _ _ 2 rfl (by kernel_rfl) ?_;refine pZ (d:=10) (x:=.tmp 8) (kk:=0) hE hb (by kernel_rfl) Zu (by decide) (Zu.ev rfl) (dE i) rfl λa3 hS3 hd3=>?_;refine fN (d:=6) (x:=.tmp 10) hE hb (by kernel_rfl) hS3 (by decide) (dE i) (hS3.ev rfl) λa4 hS4 hd4=>?_;refine aw hE ?_;have Z6:YC 30 a4 ((6,dE i)::l):=hS4.sub λt u e=>(by rw[aA] at e;simp only[aA];split at e;rename_i x;subst x;simpa using e;rename_i m1;have n2:∀z,8<=z->¬(z=t):=λz hz x=>(by rw[<-x,hl.free z (.inl hz)] at e;cases e);simp only[m1,n2 10 (by decide),n2 9 (by decide),n2 8 (by decide),if_false];exact e);refine h4 i (by omega) a4 W r Z6 (hd4.trans (hd3.trans (ZN.trans hdf))) _ hE _ _ _ hb hr λe a' W' ⟨he,r',hS',hd'⟩=>?_;subst he;exact⟨trivial,fJ hE (mN hE (ih (i+1) (by omega) a' W' r' hS' hd'))⟩
theorem PL{E:Goroutine->World->Prop}{k:List Item}{W:World}{rest:List Nat}(hE:Closed P co E)(hk:b.kind≠.early){f:FuncId}{x:Operand}{t:TypeId}(hO:Zl ops i=some (none,.defer ⟨.value (.func f),#[x],#[t]⟩,none))(h:E (G (b.at ⟨a.tmps,dcall f #[a.eval x]::a.defers⟩ (.inRegion ops rest::k)) cs) W):E (G (b.at a (.inRegion ops (i::rest)::k)) cs) W:=by
 obtain⟨ty,pos,after,ho⟩:=dO hO;exact hE.cr rfl (g':=G (b.at ⟨a.tmps,dcall f #[a.eval x]::a.defers⟩ (.inRegion ops rest::k)) cs) (λmain w=>by rw[stepG_defer ho rfl hk rfl];simp[Act.put]) h
def yN(Wg XS b4 b3 b9 Yc:Nat):Array Value:=#[ptr Wg,ptr XS,ptr b4,ptr b3,ptr b9,ptr Yc]
def CW(Wg XS b4 b3 b9 Yc c:Nat):List (Nat×Value):=[(7,.chan (some c)),(0,ptr Wg),(1,ptr XS),(2,ptr b4),(3,ptr b3),(4,ptr b9),(5,ptr Yc)]
def xr(Wg XS b4 b3 b9 Yc:Nat):Deferred:={target:=.fn (.func 95) (yN Wg XS b4 b3 b9 Yc),args:=#[]}
def MJ(xs:Array Value):Act:={tmps:=(#[]++xs)++Array.replicate (30-(#[]++xs).size) undef,defers:=[]}
theorem Mv(xs:Array Value)(main:Bool)(w:World):stepG Tryz.prog main (born Tryz.prog {target:=.fn (.func 95) xs,args:=#[]}) w=.go (G ((baseD 95).at (MJ xs) [.code wB]) [pE Tryz.prog]) w #[]:=by
 have hnt:Tryz.f95.ntmps=30:=by kernel_rfl
 have:=HV (P:=Tryz.prog) (main:=main) (w:=w) (d:={target:=.fn (.func 95) xs,args:=#[]}) (fn:=Tryz.f95) (c:=wB) rfl Tryz.func95 (by kernel_rfl) (by kernel_rfl);rw[hnt] at this;exact this
set_option maxHeartbeats 1000000 in
theorem Cc{F:World->Prop}(hF:∀{W W1},F W->Rv W W1->F W1){fz:Nat×Nat}(hw:Wm.heap[XS]? = some (.cells #[.chan (some c)] 176 fz))(h4:∀i,i<N->∀a W df,Rv Wm W->YC 30 a ((6,dE i)::CW Wg XS b4 b3 b9 Yc c)->a.defers=df->wpJ Tryz.prog false (.region 4 ZV true) (λe a' W'=>e=.normal∧Rv Wm W'∧YC 30 a' (CW Wg XS b4 b3 b9 Yc c)∧a'.defers=df) a W)(hend:∀W,Rv Wm W->F W):Gs Tryz.prog (RP Tryz.prog c (DnQ Tryz.prog link.tWg Wg F) (sends 0 N) false) (born Tryz.prog (xr Wg XS b4 b3 b9 Yc)) Wm:=by
 have hD:∀{g W W1},DnQ Tryz.prog link.tWg Wg F g W->Rv W W1->DnQ Tryz.prog link.tWg Wg F g W1:=λh r=>⟨h.1,hF h.2 r⟩
 have hE:=dq (P:=Tryz.prog) (Q:=RP Tryz.prog c (DnQ Tryz.prog link.tWg Wg F) (sends 0 N) false) (λh r=>ig (D:=DnQ Tryz.prog link.tWg Wg F) (λx y=>hD x y) h r);have hb:(baseD 95).kind≠.early:=by decide
 have hS0:YC 30 (MJ (yN Wg XS b4 b3 b9 Yc)) [(0,ptr Wg),(1,ptr XS),(2,ptr b4),(3,ptr b3),(4,ptr b9),(5,ptr Yc)]:=by
  refine⟨by simp[yN,MJ],λt v e=>?_⟩;simp only[aA] at e;repeat' (split at e)
  all_goals first|(cases e;done)|(obtain rfl:=Oi e;rename_i x;subst x;kernel_rfl)
 refine hE.cr rfl (λmain w=>Mv (yN Wg XS b4 b3 b9 Yc) main w) ?_;have hd0:(MJ (yN Wg XS b4 b3 b9 Yc)).defers=[]:=rfl;generalize MJ (yN Wg XS b4 b3 b9 Yc)=a0 at hS0 hd0 ⊢;refine b7 hE _ _ Uy ?_;refine aR hE _ _ 1 rfl (by kernel_rfl) ?_;refine PL hE hb (f:=96) (x:=.tmp 0) (t:=184) (by kernel_rfl) ?_;rw[hS0.ev rfl,hd0];refine aw hE ?_;refine b7 hE _ _ rfl ?_;refine aR hE _ _ 1 rfl (by kernel_rfl) ?_;have Y6:YC 30 ⟨a0.tmps,[dcall 96 #[ptr Wg]]⟩ [(0,ptr Wg),(1,ptr XS),(2,ptr b4),(3,ptr b3),(4,ptr b9),(5,ptr Yc)]:=hS0;refine sa (d:=7) (t:=176) (x:=.tmp 1) hE hb (by kernel_rfl) Y6 (by decide) (Y6.ev rfl) m7 (λ_ h=>by cases h) (λ_ _ h=>by cases h) hw (.chan (some c)) rfl λa1 Zu Zk=>?_;refine aw hE ?_;refine lf hE 0 _ rfl (xE hE _ rfl ?_);refine Gt (D:=DnQ Tryz.prog link.tWg Wg F) (df:=[dcall 96 #[ptr Wg]]) (Wm:=Wm) (l:=CW Wg XS b4 b3 b9 Yc c) hb rfl ⟨λt ht=>?_,rfl⟩ (λx y=>hD x y) (λi hi a W r hS hd=>h4 i hi a W _ r hS hd) (λa W r hd=>?_) N 0 (by omega) a1 Wm (Rv.refl _) Zu Zk;unfold CW;simp only[aA];rw[Xk (by omega),Xk (by omega),Xk (by omega),Xk (by omega),Xk (by omega),Xk (by omega),Xk (by omega)];rfl;have hE:=dq (P:=Tryz.prog) (Q:=DnQ Tryz.prog link.tWg Wg F) (λh r=>hD h r);refine VF hE ?_;have ha:a=⟨a.tmps,a.defers⟩:=rfl;refine hE.cr rfl (λmain w=>stepG_unwind_enter (args:=#[ptr Wg]) (ds:=[]) (fn:=Tryz.f96) (c:=body_done link) hd Tryz.func96 (by kernel_rfl) (by kernel_rfl)) ?_;refine .stop ⟨?_,hend W r⟩;have hq:=CH (P:=Tryz.prog) (b:=baseD 95) (a:=⟨a.tmps,[]⟩) (todo:=[]) rfl rfl Tryz.func95 (by kernel_rfl);exact uP (Q:=Nh Tryz.prog link.tWg Wg) (Hw I2 (qt:=2) (c:={ (baseD 95).at ⟨a.tmps,[]⟩ [] with mode:=.returning}) (cs:=[pE Tryz.prog]) rfl hq) (by kernel_rfl)
end
def yE(o:Oper):List Nat:=(o.after.toList.filter (Region.binds .any)).map (·.on)
def na(ops:Array Oper)(i:Nat)(ds:List Nat):Bool:=match ops[i]? with|some o=>ds.all λj=>(yE o).any λk=>Nat.beq k j|none=>false
theorem jO{ds:List Nat}{o:Oper}(ho:ops[i]? = some o)(h:na ops i ds=true)(hj:j∈ds):j∈yE o:=by unfold na at h;rw[ho] at h;have:=List.all_eq_true.1 h j hj;obtain⟨k,hk,e⟩:=List.any_eq_true.1 this;obtain rfl:=Nb e;exact hk
section
variable {l:List (Nat×Value)}{nt:Nat}{gz:List (Option (Nat×Value))}{Q:Exit->Act->World->Prop}
def Be(x:Option (Nat×Value)):Option Nat:=x.map (·.1)
def Wl(x:Option (Nat×Value)):Value:=(x.map (·.2)).getD undef
def bJ(P:Program)(co:Bool)(ops:Array Oper)(l:List (Nat×Value))(nt:Nat)(Wm:World)(gz:List (Option (Nat×Value)))(i:Nat)(x:Option (Nat×Value)):Prop:=
 ∃op ty pos after,ops[i]? = some ⟨Be x,op,ty,pos,after,none⟩∧∀a W,YC nt a l->Rv Wm W->(∀j∈yE ⟨Be x,op,ty,pos,after,none⟩,∀d v,gz[j]? = some (some (d,v))->a.tmps[d]? = some v)->∀K:Act->World->Prop,(∀W',Rv Wm W'->K (a.put (Be x) (Wl x)) W')->OpJ P co ⟨Be x,op,ty,pos,after,none⟩ a W K
theorem bJ.val{d:Nat}{op:Op}{ds:List Nat}(hO:Zl ops i=some (some d,op,none))(hd:na ops i ds=true)(h:∀ty pos after a W,YC nt a l->Rv Wm W->(∀j∈ds,∀d v,gz[j]? = some (some (d,v))->a.tmps[d]? = some v)->mX P a ⟨some d,op,ty,pos,after,none⟩ W v):bJ P co ops l nt Wm gz i (some (d,v)):=by
 obtain⟨ty,pos,after,ho⟩:=dO hO;refine⟨op,ty,pos,after,ho,λa W hS r X7 K hK=>?_⟩;have hr:=h ty pos after a W hS r (λj hj=>X7 j (jO ho hd hj));exact⟨hr.1,λW1 r1=>bx (hr.2 W1 r1) (hK W1 (r.trans r1))⟩
theorem Az{listed:Array Bool}(h:(listed.setIfInBounds i true).getD j false=true):j=i∨listed.getD j false=true:=by by_cases e:j=i;exact .inl e;right;rw[Array.getD_eq_getD_getElem?,M' (Ne.symm e)] at h;rw[Array.getD_eq_getD_getElem?];exact h
theorem ME{id:Nat}{W:World}(hm:P.follows .mixedOrders=true)(hB:kG ops ops.size=true)(hlen:gz.length=ops.size)(hdst:∀(j d:Nat) (v:Value),gz[j]? = some (some (d,v))->d<nt∧look l d=none)(hinj:∀(j j' d:Nat) (v v':Value),gz[j]? = some (some (d,v))->gz[j']? = some (some (d,v'))->j=j')(Ya:∀(i:Nat) (x:Option (Nat×Value)),gz[i]? = some x->bJ P co ops l nt Wm gz i x)(hS:YC nt a l)(hdf:a.defers=df)(hr:Rv Wm W)(hQ:∀a' W',YC nt a' l->a'.defers=df->Rv Wm W'->Q .normal a' W'):wpJ P co (.region id ops true) Q a W:=by
 refine sX hm λW1 r1=>?_;refine oq (n:=ops.size) hB (λlisted a W=>YC nt a l∧a.defers=df∧Rv Wm W∧∀(j d:Nat) (v:Value),gz[j]? = some (some (d,v))->listed.getD j false=true->a.tmps[d]? = some v) ⟨hS,hdf,hr.trans r1,λj d v _ h=>?_⟩ (λlisted a W i o inv hI hi ho hl X7 K hK=>?_) λlisted a W hI X8=>?_;rw[getD_replicate_false] at h;cases h
 ·obtain⟨hS,hdf,hr,hv⟩:=hI;have hx:gz[i]? = some gz[i]:=Xt (by rw[hlen];exact hi);generalize gz[i]=x at hx;obtain⟨op,ty,pos,after,Zt,Zr⟩:=Ya i x hx;obtain rfl:o=⟨Be x,op,ty,pos,after,none⟩:=(by rw[ho] at Zt;exact Oi Zt);rw[Xl (by rfl)];refine Zr a W hS hr (λj hj d v hjv=>hv j d v hjv ?_) K λW' r'=>hK _ _ ?_;unfold yE at hj;obtain⟨e,he,rfl⟩:=List.mem_map.1 hj;rw[List.mem_filter] at he;exact X7 e (by simpa using he.1) he.2;cases x with
  | none=>
   refine⟨hS,hdf,r',λj d v hj hlj=>?_⟩;rcases Az hlj with e|e;subst e;rw[hx] at hj;cases hj;exact hv j d v hj e
  | some dv=>
   obtain⟨d0,v0⟩:=dv;obtain⟨hd,hlo⟩:=hdst i d0 v0 hx;refine⟨(hS.put hd v0).sub λt u e=>?_,hdf,r',λj d v hj hlj=>?_⟩;rw[aA,Xk (λx=>by rw[<-x,hlo] at e;cases e)];exact e;rcases Az hlj with e|e;subst e;rw[hx] at hj;injection hj with hj;injection hj with hj;injection hj with h1 h2;subst h1 h2;exact fO (by rw[hS.1];exact hd);by_cases ed:d0=d;subst ed;obtain rfl:=hinj _ _ _ _ _ hj hx;rw[hl] at e;cases e;show (a.put (some d0) v0).tmps[d]? = some v;rw[cB ed];exact hv j d v hj e
 have hd:ops.toList.drop ops.size=[]:=by simp
 rw[hd];exact hQ a W hI.1 hI.2.1 hI.2.2.1
end
def cx0:Cx Tryz.prog:={T:=types,G:=[],gm:=0,hT:=zg}
theorem Ba(p1:Option Addr)(n1 k1:Nat)(x2 x3 seen id:Int)(p:Option Addr)(n k:Nat):aJ (C:=cx0) [] [] 0 ⟨[],[],[],4⟩ Tryz.f97 [.agg [.rs 4 0 (λ_=>[]),.v (.slice p1 n1 k1),.v (.int .u64 x2),.v (.int .i64 x3)],.v (.int .i64 seen),.agg [.v (.int .i64 id),.v (.slice p n k)]] λv H _=>ae (.tup [.agg [.v (.int .i64 id),.v (.slice p n k)],.v (.slice none 0 0)]) H v:=by
 refine Ai (λhb=>P' hb (by decide)) (λhb=>?_);repeat' (first|refine Ai ?_ ?_|(intro _))
 all_goals first|exact trivial|rfl|skip
theorem Js{W W1:World}(h:Gr W W1):Rv W W1:=⟨h.os,h.tape,h.output,λb o e=>by have hb:b<W.heap.size:=(E'.1 e).1;rw[Below.block h b hb];exact e⟩
def pO(p0:Option Addr)(k0:Nat)(p1:Option Addr)(n1 k1:Nat)(x2 x3:Int):Value:=.agg #[.slice p0 0 k0,.slice p1 n1 k1,.int .u64 x2,.int .i64 x3]
def pP(id:Int)(p:Option Addr)(n k:Nat):Value:=.agg #[.int .i64 id,.slice p n k]
theorem yD(p0:Option Addr)(k0:Nat)(p1:Option Addr)(n1 k1:Nat)(x2 x3 seen id:Int)(p:Option Addr)(n k:Nat)(W:World):bj Tryz.prog false 97 #[pO p0 k0 p1 n1 k1 x2 x3,.int .i64 seen,pP id p n k] W λe W'=>e=.returned (.tuple #[pP id p n k,.slice none 0 0])∧Rv W W':=by
 have ha:au (aI λ_ _ _=>False) [.agg [.rs 4 0 (λ_=>[]),.v (.slice p1 n1 k1),.v (.int .u64 x2),.v (.int .i64 x3)],.v (.int .i64 seen),.agg [.v (.int .i64 id),.v (.slice p n k)]] [pO p0 k0 p1 n1 k1 x2 x3,.int .i64 seen,pP id p n k]:=by refine⟨_,_,rfl,⟨_,⟨_,_,rfl,⟨p0,k0,rfl,F9 _,λi hi=>P' hi (F1 _)⟩,_,_,rfl,rfl,_,_,rfl,rfl,_,_,rfl,rfl,rfl⟩,rfl⟩,_,_,rfl,rfl,_,_,rfl,⟨_,⟨_,_,rfl,rfl,_,_,rfl,rfl,rfl⟩,rfl⟩,rfl⟩
 have h:=pD (C:=cx0) (Γ:=[]) (Fs:=[]) (d:=0) (f:=97) (fn:=Tryz.f97) (vs:=[pO p0 k0 p1 n1 k1 x2 x3,.int .i64 seen,pP id p n k]) (ze:=λ_ _ _=>False) (W:=W) ⟨[],[],[],4⟩ follows Tryz.func97 (by kernel_rfl) ⟨F9 _,λb sb h=>by cases h⟩ (λ_ _ _ h=>h.elim)
  ha (Ba p1 n1 k1 x2 x3 seen id p n k)
 refine h.mono ?_;rintro e W' ⟨val,z',rfl,hg,-,hd⟩;refine⟨?_,Js hg⟩;obtain⟨u,hu,rfl⟩:=hd;obtain⟨x,y,rfl,hx,hy⟩:=hu;obtain⟨x1,y1,rfl,hx1,hy1⟩:=hy;obtain⟨u2,hu2,rfl⟩:=hx;obtain⟨x3,y3,rfl,hx3,hy3⟩:=hu2;obtain⟨x4,y4,rfl,hx4,hy4⟩:=hy3;obtain rfl:x1=_:=hx1;obtain rfl:y1=[]:=hy1;obtain rfl:x3=_:=hx3;obtain rfl:x4=_:=hx4;obtain rfl:y4=[]:=hy4;rfl
def rM(b o:Nat):Value:=.pointer (some ⟨b,o,none⟩)
structure cP (W:World) (N XS b4 b3 b9 Yc c:Nat) where
 cs9:Array Value
 cs10:Array Value
 cs3:Array Value
 ce:Array Value
 cf:Array Value
 fz9:Nat×Nat
 fz10:Nat×Nat
 fz3:Nat×Nat
 fz4:Nat×Nat
 fz11:Nat×Nat
 be:Nat
 oe:Nat
 cap:Nat
 bf:Nat
 of_:Nat
 capf:Nat
 seen:Int
 p0:Option Addr
 k0:Nat
 p1:Option Addr
 n1:Nat
 k1:Nat
 x2:Int
 x3:Int
 h9:W.heap[b9]? = some (.cells cs9 28 fz9)
 sp:Option Addr
 sf:Option Addr
 h91:cs9[1]? = some (.slice sp N cap)
 hsp:0<N->sp=some ⟨be,oe,none⟩
 h10:W.heap[Yc]? = some (.cells cs10 175 fz10)
 h100:cs10[0]? = some (.slice sf N capf)
 hsf:0<N->sf=some ⟨bf,of_,none⟩
 h3:W.heap[b3]? = some (.cells cs3 28 fz3)
 h30:cs3[0]? = some (.int .i64 seen)
 h4:W.heap[b4]? = some (.cells #[.slice p0 0 k0,.slice p1 n1 k1,.int .u64 x2,.int .i64 x3] 33 fz4)
 h11:W.heap[XS]? = some (.cells #[.chan (some c)] 176 fz11)
 hE:0<N->W.heap[be]? = some (.cells ce 39 (0,0))
 hEi:∀i,i<N->∃id p n k,ce[oe+i*2]? = some (.int .i64 id)∧ce[oe+i*2+1]? = some (.slice p n k)
 hF:0<N->W.heap[bf]? = some (.cells cf 66 (0,0))
 hFi:∀i,i<N->cf[of_+i]? = some (.slice none 0 0)
def dW(X:cP Wm N XS b4 b3 b9 Yc c)(i:Nat)(id:Int)(p:Option Addr)(n k:Nat):List (Option (Nat×Value)):=[some (12,rM b9 1),some (13,(.slice (some ⟨X.be,X.oe,none⟩) N X.cap)),some (14,dE i),some (15,(.slice (some ⟨X.bf,X.of_,none⟩) N X.capf)),some (16,dE i),some (17,pO X.p0 X.k0 X.p1 X.n1 X.k1 X.x2 X.x3),some (18,rM b3 0),some (19,.int .i64 X.seen),some (20,rM b9 1),some (21,(.slice (some ⟨X.be,X.oe,none⟩) N X.cap)),some (22,dE i),some (23,rM X.be (X.oe+i*2)),some (24,pP id p n k),some (25,.tuple #[pP id p n k,.slice none 0 0]),some (11,.tuple #[pP id p n k,.slice none 0 0]),some (26,pP id p n k),some (27,.slice none 0 0),some (28,rM X.be (X.oe+i*2)),none,some (29,rM X.bf (X.of_+i)),none]
abbrev l6 (Wg XS b4 b3 b9 Yc c i:Nat):List (Nat×Value):=(6,dE i)::CW Wg XS b4 b3 b9 Yc c
theorem cP.at9(X:cP Wm N XS b4 b3 b9 Yc c)(hi:i<N):X.cs9[1]? = some (.slice (some ⟨X.be,X.oe,none⟩) N X.cap):=by rw[<-X.hsp (by omega)];exact X.h91
theorem cP.WZ(X:cP Wm N XS b4 b3 b9 Yc c)(hi:i<N):X.cs10[0]? = some (.slice (some ⟨X.bf,X.of_,none⟩) N X.capf):=by rw[<-X.hsf (by omega)];exact X.h100
theorem Cj:∃fs f i,Tryz.prog.underlying 28=some (.struct fs)∧fs[0]? = some f∧Tryz.prog.info? f.type=some i∧i.size≠0∧f.offset=0:=by
 have h:mJ cx 28 0=some (0,⟨1,8,.int .i64,[.il .i64 0],false⟩):=by rfl
 obtain⟨fs,f,i,d,e1,e2,e3,e4,e5,e6,e7⟩:=jh h;exact⟨fs,f,i,e1,e2,e4,by rw[e6];decide,e3⟩
theorem qn(h:look types t=some ti):∃i,Tryz.prog.info? t=some i∧i.size=ti.sz:=by obtain⟨i,d,z,h1,h2,h3,-⟩:=(cx.ty h).ex;exact⟨i,h1,h3⟩
theorem Ek:Tryz.prog.underlying 175=some (.slice 66):=by kernel_rfl
theorem GC:∃fs,Tryz.prog.underlying 33=some (.struct fs):=⟨_,Tryz.underlying33⟩
theorem NJ:∃fs,Tryz.prog.underlying 39=some (.struct fs):=⟨_,Tryz.underlying39⟩
theorem te{W:World}{K:Act->World->Prop}{x y:Operand}{ty:TypeId}{b off:Nat}{cur:Array Value}{e:TypeId}(YD:look types t=some ti)(hx:a.eval x=.pointer (some ⟨b,off,none⟩))(hy:a.eval y=v)(hb:W.heap[b]? = some (.cells cur e (0,0)))(hl:v.cells.toList.length=ti.sz)(h0:0<ti.sz)(hc:∀j u,v.cells.toList[j]? = some u->cur[off+j]? = some u∧u.oneCell'=true)(hK:K (a.put none undef) W):c8 Tryz.prog false ⟨none,.store t x y,ty,pos,after,none⟩ a W K:=by
 have Yo:off+ti.sz<=cur.toList.length:=by have hj:v.cells.toList[ti.sz-1]? = some (v.cells.toList[ti.sz-1]'(by omega)):=Xt _;have:=(E'.1 (hc _ _ hj).1).1;simp;omega
 have hs:(cur.toList.take off++v.cells.toList++cur.toList.drop (off+ti.sz)).toArray=cur:=by
  apply Array.ext';rw[List.toList_toArray];apply List.ext_getElem?;intro j;rw[List.append_assoc];by_cases h1:j<off;rw[F5 (by rw[List.length_take];omega),Xn h1];rw[F6 (by rw[List.length_take];omega),List.length_take,Nat.min_eq_left (by omega)];by_cases h2:j-off<ti.sz;rw[F5 (by omega)];have hj:=Xt (l:=v.cells.toList) (i:=j-off) (by omega);have h3:=(hc _ _ hj).1;rw[show off+(j-off)=j by omega] at h3;rw[hj,Array.getElem?_toList,h3];rw[F6 (by omega),hl,List.getElem?_drop]
  congr 1
  omega
 have hr:=pk (C:=cx) (a:=a) (W:=W) (ty:=ty) (pos:=pos) (after:=after) (guard:=none) (u:=cur.toList) (bt:=e) YD hx (by rw[Array.toArray_toList];exact hb) (by rw[hy];exact hl) Yo (by rw[hy];exact λu hu=>by obtain⟨j,hj⟩:=List.getElem?_of_mem hu;exact(hc j u hj).2);unfold c8;rw[hr,hy,hs,setRow_self W b cur e (0,0) hb];exact hK
theorem Wk(X:cP Wm N XS b4 b3 b9 Yc c)(hi:i<N)(e1:X.ce[X.oe+i*2]? = some (.int .i64 id))(e2:X.ce[X.oe+i*2+1]? = some (.slice p n k)):bJ Tryz.prog false ZV (l6 Wg XS b4 b3 b9 Yc c i) 30 Wm (dW X i id p n k) 0 (some (12,rM b9 1)):=by refine bJ.val (op:=.fieldAddr 28 (.tmp 4) 1) (ds:=[]) (by kernel_rfl) (by kernel_rfl) λty pos after a W hS r X7=>?_;obtain⟨fs,f,inf,u1,u2,u3,u4,u5⟩:=pQ;have:=lh (P:=Tryz.prog) (a:=a) (x:=.tmp 4) (k:=1) (W:=W) (dst:=some 12) (ty:=ty) (pos:=pos) (after:=after) (guard:=none) (p:=⟨b9,0,none⟩) (hS.ev rfl) u1 u2 u3 u4;rw[bO,u5] at this;exact this
theorem Wj(X:cP Wm N XS b4 b3 b9 Yc c)(hi:i<N)(e1:X.ce[X.oe+i*2]? = some (.int .i64 id))(e2:X.ce[X.oe+i*2+1]? = some (.slice p n k)):bJ Tryz.prog false ZV (l6 Wg XS b4 b3 b9 Yc c i) 30 Wm (dW X i id p n k) 1 (some (13,(.slice (some ⟨X.be,X.oe,none⟩) N X.cap))):=by refine bJ.val (op:=.load 26 (.tmp 12)) (ds:=[0]) (by kernel_rfl) (by kernel_rfl) λty pos after a W hS r X7=>?_;exact js (d:=_) ((aY (X7 0 (by simp) 12 _ rfl))) km (λ_ h=>by cases h) (λ_ _ h=>by cases h) (r.heap _ _ X.h9) (X.at9 hi)
theorem Wi(X:cP Wm N XS b4 b3 b9 Yc c)(hi:i<N)(e1:X.ce[X.oe+i*2]? = some (.int .i64 id))(e2:X.ce[X.oe+i*2+1]? = some (.slice p n k)):bJ Tryz.prog false ZV (l6 Wg XS b4 b3 b9 Yc c i) 30 Wm (dW X i id p n k) 2 (some (14,dE i)):=by refine bJ.val (op:=.move (.tmp 6)) (ds:=[]) (by kernel_rfl) (by kernel_rfl) λty pos after a W hS r X7=>?_;exact jd (hS.ev rfl)
theorem Wh(X:cP Wm N XS b4 b3 b9 Yc c)(hi:i<N)(e1:X.ce[X.oe+i*2]? = some (.int .i64 id))(e2:X.ce[X.oe+i*2+1]? = some (.slice p n k)):bJ Tryz.prog false ZV (l6 Wg XS b4 b3 b9 Yc c i) 30 Wm (dW X i id p n k) 3 (some (15,(.slice (some ⟨X.bf,X.of_,none⟩) N X.capf))):=by refine bJ.val (op:=.load 175 (.tmp 5)) (ds:=[]) (by kernel_rfl) (by kernel_rfl) λty pos after a W hS r X7=>?_;exact js (d:=_) (hS.ev rfl) Ek (λ_ h=>by cases h) (λ_ _ h=>by cases h) (r.heap _ _ X.h10) (X.WZ hi)
theorem We(X:cP Wm N XS b4 b3 b9 Yc c)(hi:i<N)(e1:X.ce[X.oe+i*2]? = some (.int .i64 id))(e2:X.ce[X.oe+i*2+1]? = some (.slice p n k)):bJ Tryz.prog false ZV (l6 Wg XS b4 b3 b9 Yc c i) 30 Wm (dW X i id p n k) 4 (some (16,dE i)):=by refine bJ.val (op:=.move (.tmp 6)) (ds:=[]) (by kernel_rfl) (by kernel_rfl) λty pos after a W hS r X7=>?_;exact jd (hS.ev rfl)
theorem Wc(X:cP Wm N XS b4 b3 b9 Yc c)(hi:i<N)(e1:X.ce[X.oe+i*2]? = some (.int .i64 id))(e2:X.ce[X.oe+i*2+1]? = some (.slice p n k)):bJ Tryz.prog false ZV (l6 Wg XS b4 b3 b9 Yc c i) 30 Wm (dW X i id p n k) 5 (some (17,pO X.p0 X.k0 X.p1 X.n1 X.k1 X.x2 X.x3)):=by refine bJ.val (op:=.load 33 (.tmp 2)) (ds:=[]) (by kernel_rfl) (by kernel_rfl) λty pos after a W hS r X7=>?_;obtain⟨inf,f1,f2⟩:=qn (t:=33) rfl;obtain⟨fs,f3⟩:=GC;exact tp (cs:=[.slice X.p0 0 X.k0,.slice X.p1 X.n1 X.k1,.int .u64 X.x2,.int .i64 X.x3]) (hS.ev rfl) f1 f3 (.inl ⟨_,rfl⟩) f2 (r.heap _ _ X.h4) (λj v hj=>by rw[B'];simpa using hj)
theorem Wa(X:cP Wm N XS b4 b3 b9 Yc c)(hi:i<N)(e1:X.ce[X.oe+i*2]? = some (.int .i64 id))(e2:X.ce[X.oe+i*2+1]? = some (.slice p n k)):bJ Tryz.prog false ZV (l6 Wg XS b4 b3 b9 Yc c i) 30 Wm (dW X i id p n k) 6 (some (18,rM b3 0)):=by refine bJ.val (op:=.fieldAddr 28 (.tmp 3) 0) (ds:=[]) (by kernel_rfl) (by kernel_rfl) λty pos after a W hS r X7=>?_;obtain⟨fs,f,inf,u1,u2,u3,u4,u5⟩:=Cj;have:=lh (P:=Tryz.prog) (a:=a) (x:=.tmp 3) (k:=0) (W:=W) (dst:=some 18) (ty:=ty) (pos:=pos) (after:=after) (guard:=none) (p:=⟨b3,0,none⟩) (hS.ev rfl) u1 u2 u3 u4;rw[bO,u5] at this;exact this
theorem V9(X:cP Wm N XS b4 b3 b9 Yc c)(hi:i<N)(e1:X.ce[X.oe+i*2]? = some (.int .i64 id))(e2:X.ce[X.oe+i*2+1]? = some (.slice p n k)):bJ Tryz.prog false ZV (l6 Wg XS b4 b3 b9 Yc c i) 30 Wm (dW X i id p n k) 7 (some (19,.int .i64 X.seen)):=by refine bJ.val (op:=.load 3 (.tmp 18)) (ds:=[6]) (by kernel_rfl) (by kernel_rfl) λty pos after a W hS r X7=>?_;exact js (d:=_) ((aY (X7 6 (by simp) 18 _ rfl))) Tryz.underlying3 (λ_ h=>by cases h) (λ_ _ h=>by cases h) (r.heap _ _ X.h3) X.h30
theorem V8(X:cP Wm N XS b4 b3 b9 Yc c)(hi:i<N)(e1:X.ce[X.oe+i*2]? = some (.int .i64 id))(e2:X.ce[X.oe+i*2+1]? = some (.slice p n k)):bJ Tryz.prog false ZV (l6 Wg XS b4 b3 b9 Yc c i) 30 Wm (dW X i id p n k) 8 (some (20,rM b9 1)):=by refine bJ.val (op:=.fieldAddr 28 (.tmp 4) 1) (ds:=[]) (by kernel_rfl) (by kernel_rfl) λty pos after a W hS r X7=>?_;obtain⟨fs,f,inf,u1,u2,u3,u4,u5⟩:=pQ;have:=lh (P:=Tryz.prog) (a:=a) (x:=.tmp 4) (k:=1) (W:=W) (dst:=some 20) (ty:=ty) (pos:=pos) (after:=after) (guard:=none) (p:=⟨b9,0,none⟩) (hS.ev rfl) u1 u2 u3 u4;rw[bO,u5] at this;exact this
theorem V7(X:cP Wm N XS b4 b3 b9 Yc c)(hi:i<N)(e1:X.ce[X.oe+i*2]? = some (.int .i64 id))(e2:X.ce[X.oe+i*2+1]? = some (.slice p n k)):bJ Tryz.prog false ZV (l6 Wg XS b4 b3 b9 Yc c i) 30 Wm (dW X i id p n k) 9 (some (21,(.slice (some ⟨X.be,X.oe,none⟩) N X.cap))):=by refine bJ.val (op:=.load 26 (.tmp 20)) (ds:=[8]) (by kernel_rfl) (by kernel_rfl) λty pos after a W hS r X7=>?_;exact js (d:=_) ((aY (X7 8 (by simp) 20 _ rfl))) km (λ_ h=>by cases h) (λ_ _ h=>by cases h) (r.heap _ _ X.h9) (X.at9 hi)
theorem Us(X:cP Wm N XS b4 b3 b9 Yc c)(hi:i<N)(e1:X.ce[X.oe+i*2]? = some (.int .i64 id))(e2:X.ce[X.oe+i*2+1]? = some (.slice p n k)):bJ Tryz.prog false ZV (l6 Wg XS b4 b3 b9 Yc c i) 30 Wm (dW X i id p n k) 10 (some (22,dE i)):=by refine bJ.val (op:=.move (.tmp 6)) (ds:=[]) (by kernel_rfl) (by kernel_rfl) λty pos after a W hS r X7=>?_;exact jd (hS.ev rfl)
theorem Ur(X:cP Wm N XS b4 b3 b9 Yc c)(hi:i<N)(e1:X.ce[X.oe+i*2]? = some (.int .i64 id))(e2:X.ce[X.oe+i*2+1]? = some (.slice p n k)):bJ Tryz.prog false ZV (l6 Wg XS b4 b3 b9 Yc c i) 30 Wm (dW X i id p n k) 11 (some (23,rM X.be (X.oe+i*2))):=by refine bJ.val (op:=.indexAddr 26 (.tmp 21) (.tmp 22)) (ds:=[9,10]) (by kernel_rfl) (by kernel_rfl) λty pos after a W hS r X7=>?_;obtain⟨inf,f1,f2⟩:=qn (t:=39) rfl;have:=lg (P:=Tryz.prog) (W:=W) (dst:=some 23) (ty:=ty) (pos:=pos) (after:=after) (guard:=none) (aY (X7 9 (by simp) 21 _ rfl)) (aY (X7 10 (by simp) 22 _ rfl)) (k:=(i:Int)) (by omega) km f1;rw[bO,Int.toNat_natCast,f2] at this;exact this
theorem Uq(X:cP Wm N XS b4 b3 b9 Yc c)(hi:i<N)(e1:X.ce[X.oe+i*2]? = some (.int .i64 id))(e2:X.ce[X.oe+i*2+1]? = some (.slice p n k)):bJ Tryz.prog false ZV (l6 Wg XS b4 b3 b9 Yc c i) 30 Wm (dW X i id p n k) 12 (some (24,pP id p n k)):=by
 refine bJ.val (op:=.load 39 (.tmp 23)) (ds:=[11]) (by kernel_rfl) (by kernel_rfl) λty pos after a W hS r X7=>?_;obtain⟨inf,f1,f2⟩:=qn (t:=39) rfl;obtain⟨fs,f3⟩:=NJ;exact tp (cs:=[.int .i64 id,.slice p n k]) (aY (X7 11 (by simp) 23 _ rfl)) f1 f3 (.inl ⟨_,rfl⟩) f2 (r.heap _ _ (X.hE (by omega))) (λj v hj=>by
  match j,hj with
  | 0,hj=>obtain rfl:=Oi hj;exact e1
  | 1,hj=>obtain rfl:=Oi hj;exact e2
  | _+2,hj=>cases hj)
theorem Up(X:cP Wm N XS b4 b3 b9 Yc c)(hi:i<N)(e1:X.ce[X.oe+i*2]? = some (.int .i64 id))(e2:X.ce[X.oe+i*2+1]? = some (.slice p n k)):bJ Tryz.prog false ZV (l6 Wg XS b4 b3 b9 Yc c i) 30 Wm (dW X i id p n k) 13 (some (25,.tuple #[pP id p n k,.slice none 0 0])):=by
 have hO:Zl ZV 13=some (some 25,.call ⟨.value (.func 97),#[.tmp 17,.tmp 19,.tmp 24],#[33,3,39]⟩,none):=by kernel_rfl
 have hd:na ZV 13 [5,7,12]=true:=by kernel_rfl
 obtain⟨ty,pos,after,ho⟩:=dO hO;refine⟨_,ty,pos,after,ho,λa W hS r X7 K hK=>⟨pb (x:=.func 97) rfl rfl (λargs=>jL Tryz.func97 (by kernel_rfl) args),λW1 r1=>?_⟩⟩;have X7:∀j∈[5,7,12],∀d v,(dW X i id p n k)[j]? = some (some (d,v))->a.tmps[d]? = some v:=λj hj=>X7 j (jO ho hd hj);unfold c8;rw[pq (al:=#[pO X.p0 X.k0 X.p1 X.n1 X.k1 X.x2 X.x3,.int .i64 X.seen,pP id p n k]) (x:=.func 97) rfl rfl Tryz.call97 (by have h1:=aY (X7 5 (by simp) 17 _ rfl);have h2:=aY (X7 7 (by simp) 19 _ rfl);have h3:=aY (X7 12 (by simp) 24 _ rfl);simp[h1,h2,h3])];refine(yD X.p0 X.k0 X.p1 X.n1 X.k1 X.x2 X.x3 X.seen id p n k W1).mono λe w2 h=>?_;obtain⟨rfl,r2⟩:=h;exact hK w2 (r.trans (r1.trans r2))
theorem Uo(X:cP Wm N XS b4 b3 b9 Yc c)(hi:i<N)(e1:X.ce[X.oe+i*2]? = some (.int .i64 id))(e2:X.ce[X.oe+i*2+1]? = some (.slice p n k)):bJ Tryz.prog false ZV (l6 Wg XS b4 b3 b9 Yc c i) 30 Wm (dW X i id p n k) 14 (some (11,.tuple #[pP id p n k,.slice none 0 0])):=by refine bJ.val (op:=.move (.tmp 25)) (ds:=[13]) (by kernel_rfl) (by kernel_rfl) λty pos after a W hS r X7=>?_;exact jd ((aY (X7 13 (by simp) 25 _ rfl)))
theorem Un(X:cP Wm N XS b4 b3 b9 Yc c)(hi:i<N)(e1:X.ce[X.oe+i*2]? = some (.int .i64 id))(e2:X.ce[X.oe+i*2+1]? = some (.slice p n k)):bJ Tryz.prog false ZV (l6 Wg XS b4 b3 b9 Yc c i) 30 Wm (dW X i id p n k) 15 (some (26,pP id p n k)):=by refine bJ.val (op:=.extract (.tmp 11) 0) (ds:=[14]) (by kernel_rfl) (by kernel_rfl) λty pos after a W hS r X7=>?_;exact lj ((aY (X7 14 (by simp) 11 _ rfl))) rfl
theorem Um(X:cP Wm N XS b4 b3 b9 Yc c)(hi:i<N)(e1:X.ce[X.oe+i*2]? = some (.int .i64 id))(e2:X.ce[X.oe+i*2+1]? = some (.slice p n k)):bJ Tryz.prog false ZV (l6 Wg XS b4 b3 b9 Yc c i) 30 Wm (dW X i id p n k) 16 (some (27,.slice none 0 0)):=by refine bJ.val (op:=.extract (.tmp 11) 1) (ds:=[14]) (by kernel_rfl) (by kernel_rfl) λty pos after a W hS r X7=>?_;exact lj ((aY (X7 14 (by simp) 11 _ rfl))) rfl
theorem Ul(X:cP Wm N XS b4 b3 b9 Yc c)(hi:i<N)(e1:X.ce[X.oe+i*2]? = some (.int .i64 id))(e2:X.ce[X.oe+i*2+1]? = some (.slice p n k)):bJ Tryz.prog false ZV (l6 Wg XS b4 b3 b9 Yc c i) 30 Wm (dW X i id p n k) 17 (some (28,rM X.be (X.oe+i*2))):=by refine bJ.val (op:=.indexAddr 26 (.tmp 13) (.tmp 14)) (ds:=[1,2,15]) (by kernel_rfl) (by kernel_rfl) λty pos after a W hS r X7=>?_;obtain⟨inf,f1,f2⟩:=qn (t:=39) rfl;have:=lg (P:=Tryz.prog) (W:=W) (dst:=some 28) (ty:=ty) (pos:=pos) (after:=after) (guard:=none) (aY (X7 1 (by simp) 13 _ rfl)) (aY (X7 2 (by simp) 14 _ rfl)) (k:=(i:Int)) (by omega) km f1;rw[bO,Int.toNat_natCast,f2] at this;exact this
theorem Uk(X:cP Wm N XS b4 b3 b9 Yc c)(hi:i<N)(e1:X.ce[X.oe+i*2]? = some (.int .i64 id))(e2:X.ce[X.oe+i*2+1]? = some (.slice p n k)):bJ Tryz.prog false ZV (l6 Wg XS b4 b3 b9 Yc c i) 30 Wm (dW X i id p n k) 18 none:=by
 have hO:Zl ZV 18=some (none,.store 39 (.tmp 28) (.tmp 26),none):=by kernel_rfl
 have hd:na ZV 18 [17,15]=true:=by kernel_rfl
 obtain⟨ty,pos,after,ho⟩:=dO hO;refine⟨_,ty,pos,after,ho,λa W hS r X7 K hK=>⟨aa (lz _ _ _) λ_=>trivial,λW1 r1=>?_⟩⟩;have X7:∀j∈[17,15],∀d v,(dW X i id p n k)[j]? = some (some (d,v))->a.tmps[d]? = some v:=λj hj=>X7 j (jO ho hd hj);exact te (t:=39) rfl (aY (X7 17 (by simp) 28 _ rfl)) (aY (X7 15 (by simp) 26 _ rfl)) ((r.trans r1).heap _ _ (X.hE (by omega))) (by rfl) (by decide) (λj u hj=>by
  match j,hj with
  | 0,hj=>obtain rfl:=Oi hj;exact⟨e1,rfl⟩
  | 1,hj=>obtain rfl:=Oi hj;exact⟨e2,rfl⟩
  | _+2,hj=>cases hj) (hK W1 (r.trans r1))
theorem Uj(X:cP Wm N XS b4 b3 b9 Yc c)(hi:i<N)(e1:X.ce[X.oe+i*2]? = some (.int .i64 id))(e2:X.ce[X.oe+i*2+1]? = some (.slice p n k)):bJ Tryz.prog false ZV (l6 Wg XS b4 b3 b9 Yc c i) 30 Wm (dW X i id p n k) 19 (some (29,rM X.bf (X.of_+i))):=by refine bJ.val (op:=.indexAddr 175 (.tmp 15) (.tmp 16)) (ds:=[3,4]) (by kernel_rfl) (by kernel_rfl) λty pos after a W hS r X7=>?_;obtain⟨inf,f1,f2⟩:=qn (t:=66) rfl;have:=lg (P:=Tryz.prog) (W:=W) (dst:=some 29) (ty:=ty) (pos:=pos) (after:=after) (guard:=none) (aY (X7 3 (by simp) 15 _ rfl)) (aY (X7 4 (by simp) 16 _ rfl)) (k:=(i:Int)) (by omega) Ek f1;rw[bO,Int.toNat_natCast,f2] at this;rw[Nat.mul_one] at this;exact this
theorem Ui(X:cP Wm N XS b4 b3 b9 Yc c)(hi:i<N)(e1:X.ce[X.oe+i*2]? = some (.int .i64 id))(e2:X.ce[X.oe+i*2+1]? = some (.slice p n k)):bJ Tryz.prog false ZV (l6 Wg XS b4 b3 b9 Yc c i) 30 Wm (dW X i id p n k) 20 none:=by
 have hO:Zl ZV 20=some (none,.store 66 (.tmp 29) (.tmp 27),none):=by kernel_rfl
 have hd:na ZV 20 [19,16]=true:=by kernel_rfl
 obtain⟨ty,pos,after,ho⟩:=dO hO;refine⟨_,ty,pos,after,ho,λa W hS r X7 K hK=>⟨aa (lz _ _ _) λ_=>trivial,λW1 r1=>?_⟩⟩;have X7:∀j∈[19,16],∀d v,(dW X i id p n k)[j]? = some (some (d,v))->a.tmps[d]? = some v:=λj hj=>X7 j (jO ho hd hj);exact te (t:=66) rfl (aY (X7 19 (by simp) 29 _ rfl)) (aY (X7 16 (by simp) 27 _ rfl)) ((r.trans r1).heap _ _ (X.hF (by omega))) (by rfl) (by decide) (λj u hj=>by
  match j,hj with
  | 0,hj=>obtain rfl:=Oi hj;exact⟨X.hFi i hi,rfl⟩
  | _+1,hj=>cases hj) (hK W1 (r.trans r1))
def nJ:List (Option Nat):=[some 12,some 13,some 14,some 15,some 16,some 17,some 18,some 19,some 20,some 21,some 22,some 23,some 24,some 25,some 11,some 26,some 27,some 28,none,some 29,none]
theorem sZ(X:cP Wm N XS b4 b3 b9 Yc c){d:Nat}(h:(dW X i id p n k)[j]? = some (some (d,v))):nJ[j]? = some (some d):=by have:nJ=(dW X i id p n k).map (·.map (·.1)):=rfl;rw[this,List.getElem?_map,h];rfl
theorem Gv{j' d:Nat}(h:nJ[j]? = some (some d))(h':nJ[j']? = some (some d)):j=j':=by
 have hl:nJ.length=21:=rfl;have a1:j<21:=by have:=(F3.1 h).1;omega
 have a2:j'<21:=by have:=(F3.1 h').1;omega
 have key:∀x y:Fin 21,nJ[x.1]? = nJ[y.1]?->nJ[x.1]?≠some none->x=y:=by decide
 have:=key ⟨j,a1⟩ ⟨j',a2⟩ (h.trans h'.symm) (by rw[h];simp);exact O' Fin.val this
theorem B9(X:cP Wm N XS b4 b3 b9 Yc c)(i:Nat)(hi:i<N)(a:Act)(W:World)(r:Rv Wm W)(hS:YC 30 a (l6 Wg XS b4 b3 b9 Yc c i))(hd:a.defers=df) :
  wpJ Tryz.prog false (.region 4 ZV true) (λe a' W'=>e=.normal∧Rv Wm W'∧YC 30 a' (CW Wg XS b4 b3 b9 Yc c)∧a'.defers=df) a W:=by
 obtain⟨id,p,n,k,e1,e2⟩:=X.hEi i hi;refine ME (gz:=dW X i id p n k) follows (by kernel_rfl) (by kernel_rfl) (λj d v hj=>?_) (λj j' d v v' hj hj'=>?_) (λj x hj=>?_) hS hd r λa' W' hS' hd' r'=>⟨rfl,r',hS'.drop (by rfl),hd'⟩
 have h1:(some d:Option Nat)∈nJ:=Xu (sZ X hj);have h2:8<=d∧d<30:=(by unfold nJ at h1;simp at h1;omega);refine⟨h2.2,?_⟩;simp only[l6,CW,aA];rw[Xk (by omega),Xk (by omega),Xk (by omega),Xk (by omega),Xk (by omega),Xk (by omega),Xk (by omega),Xk (by omega)];rfl;exact Gv (sZ X hj) (sZ X hj')
 ·match j,hj with
  | 0,hj=>obtain rfl:=Oi hj;exact Wk X hi e1 e2
  | 1,hj=>obtain rfl:=Oi hj;exact Wj X hi e1 e2
  | 2,hj=>obtain rfl:=Oi hj;exact Wi X hi e1 e2
  | 3,hj=>obtain rfl:=Oi hj;exact Wh X hi e1 e2
  | 4,hj=>obtain rfl:=Oi hj;exact We X hi e1 e2
  | 5,hj=>obtain rfl:=Oi hj;exact Wc X hi e1 e2
  | 6,hj=>obtain rfl:=Oi hj;exact Wa X hi e1 e2
  | 7,hj=>obtain rfl:=Oi hj;exact V9 X hi e1 e2
  | 8,hj=>obtain rfl:=Oi hj;exact V8 X hi e1 e2
  | 9,hj=>obtain rfl:=Oi hj;exact V7 X hi e1 e2
  | 10,hj=>obtain rfl:=Oi hj;exact Us X hi e1 e2
  | 11,hj=>obtain rfl:=Oi hj;exact Ur X hi e1 e2
  | 12,hj=>obtain rfl:=Oi hj;exact Uq X hi e1 e2
  | 13,hj=>obtain rfl:=Oi hj;exact Up X hi e1 e2
  | 14,hj=>obtain rfl:=Oi hj;exact Uo X hi e1 e2
  | 15,hj=>obtain rfl:=Oi hj;exact Un X hi e1 e2
  | 16,hj=>obtain rfl:=Oi hj;exact Um X hi e1 e2
  | 17,hj=>obtain rfl:=Oi hj;exact Ul X hi e1 e2
  | 18,hj=>obtain rfl:=Oi hj;exact Uk X hi e1 e2
  | 19,hj=>obtain rfl:=Oi hj;exact Uj X hi e1 e2
  | 20,hj=>obtain rfl:=Oi hj;exact Ui X hi e1 e2
  | _+21,hj=>cases hj
end
end Go.Proofs.YtmdpdknpapjchaaGreatDoor
