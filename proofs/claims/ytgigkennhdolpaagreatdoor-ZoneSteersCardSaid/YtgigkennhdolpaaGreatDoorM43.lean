/- Company, 44: a goroutine's first step and its last: the function that the go statement names, called and left. Company, 45: workers.Parallel's worker, told by hand: it receives, works, and has done. Company, 46: a region in whatever order, of which each operation's value is known ahead, and which leaves all old blocks as they stood. Company, 47: (workers.Setup).entity without Systems: the entity as it is, no faults. -/
import Derived.Test.YtgigkennhdolpaaGreatDoorM29
import Derived.Conc.Own2
import Derived.Conc.DeferLaws
import Derived.Test.YtgigkennhdolpaaGreatDoorM41
import Derived.Test.YtgigkennhdolpaaGreatDoorM42
import Derived.Test.YtgigkennhdolpaaGreatDoorM19
namespace Go.Proofs.YtgigkennhdolpaaGreatDoor
open Go.Conc Go.RowKit
def m9(P:Program):Frame:={ (default:Frame) with fn:=P.funcs.size,defers:=[],mode:=.panicking [goexitEntry]}
section
variable {P:Program}{d:Deferred}{f:FuncId}{fn:Func}{c:Code}{xs cap:Array Value}{main:Bool}{w:World}{b:Frame}{a:Act}{todo:List Item}
theorem born_step(hd:d = {target:=.fn (.func f) cap,args:=xs})(hf:P.funcs[f]? = some fn) (hname:(fn.name== "runtime.NumGoroutine")=false) (hb:fn.body=some c) :
  stepG P main (born P d) w=.go (G ((baseD f).at {tmps:=(xs++cap)++Array.replicate (fn.ntmps-(xs++cap).size) undef,defers:=[]} [.code c]) [m9 P]) w #[]:=by
 have h1:¬fn.name = "runtime.NumGoroutine":=by simpa using hname
 rw[←enter_atD (xs++cap) hf hb]
 subst hd
 simp[born,m9,G,stepG,unwind,callDeferred,invoke,callFunc,hf,h1,hb,GStep.after,seen_none]
theorem quits_born(hk:b.kind=.deferred)(hd:a.defers=[])(hf:P.funcs[b.fn]? = some fn)(hr:fn.results=#[]):QuitsD P 2 0 (G {b.at a todo with mode:=.returning} [m9 P]):=by
 refine .inr ⟨rfl,{frame:={m9 P with mode:=.panicking [goexitEntry]},callers:=[],status:=.running,dying:=none},#[],by simp,fun w=>?_,.inr ⟨rfl,{frame:={m9 P with mode:=.panicking [goexitEntry]},callers:=[],status:=.finished,dying:=none},#[],by simp,fun w=>?_,rfl,rfl⟩⟩
 ·simp[G,stepG,unwind,doReturn,Frame.at,hk,hd,hf,results_none hr _ P w,events_results_none hr _ _,seen,GStep.after,m9]
  rfl
 ·simp[stepG,unwind,m9,goexitEntry,GStep.after]
  have h0:(default:Frame).todo=[]:=rfl
  simp[Frame.catches,h0]
end
open Go.Conc.Lib Go.ConcR.Gen Go.ConcN.Gen
open Go.ConcR (KK wgBlock WgAt stA smA rd wr mk DC0)
noncomputable def wB:Code:=fN Tryz.f114
noncomputable def wX:Code:=lin (bin (sq2 (sq2 wB)))
noncomputable def w0o:Array Oper:=rgo (sq1 wB)
noncomputable def w1o:Array Oper:=rgo (sq1 (sq2 wB))
noncomputable def w2o:Array Oper:=rgo (sq1 wX)
noncomputable def w3o:Array Oper:=rgo (sq1 (bin (sq2 (sq2 wX))))
noncomputable def w4o:Array Oper:=rgo (sq2 (bin (sq2 (sq2 wX))))
theorem wB_is:wB=.seq (.region 0 w0o false) (.seq (.region 1 w1o false) (.block 0 (.loop wX))):=by kernel_rfl
theorem wX_is:wX=.seq (.region 2 w2o false) (.seq (.cond (.tmp 9) .skip (.exit 0)) (.block 1 (.seq (.region 3 w3o false) (.region 4 w4o true)))):=by kernel_rfl
structure LowW (l:List (Nat×Value)) (c:Nat):Prop where
 free:∀t,8≤t∨t=6→look l t=none
 chan:look l 7=some (.chan (some c))
section
variable {c Wg:Nat}{l:List (Nat×Value)}{b:Frame}{cs:List Frame}{D:Goroutine→World→Prop}{Wm:World}{df:List Deferred}{N:Nat}
theorem ld_recv{a:Act}{w:World}{ty:TypeId}{pos:String}{after:Array Edge}(h:a.eval (.tmp 7)=.chan (some c)) :
  (execOp a.eval ⟨some 8,.recv 190 (.tmp 7) true,ty,pos,after,none⟩).run Tryz.prog w=.ok (.comm #[rcase c (.int .i64 0)] true (.recv true)) w∧(execOp a.eval ⟨some 8,.recv 190 (.tmp 7) true,ty,pos,after,none⟩).events Tryz.prog w #[]=#[]:=by
 constructor
 ·simp[go_sem,execOp,run_underlying kR,Tryz.zeroValue3,rcase]
  simpa[Act.eval] using h
 ·simp[go_sem,execOp,run_underlying kR,Tryz.zeroValue3,h]
set_option maxHeartbeats 1000000 in
theorem work_loop(hb:b.kind≠.early)(hr:b.roundOf=none)(hl:LowW l c)(hD:∀{g W W1},D g W→Rv W W1→D g W1)
  (h4:∀i,i<N→∀a W,Rv Wm W→Sls 30 a ((6,cX i)::l)→a.defers=df→wpJ Tryz.prog false (.region 4 w4o true) (fun e a' W'=>e=.normal∧Rv Wm W'∧Sls 30 a' l∧a'.defers=df) a W)
  (hend:∀a W,Rv Wm W→a.defers=df→Gs Tryz.prog D (G (b.at a []) cs) W) :
  ∀(m i:Nat),i+m=N→∀a W,Rv Wm W→Sls 30 a l→a.defers=df→Gs Tryz.prog (RP Tryz.prog c D (sends i N) false) (G (b.at a (.code wX::.inLoop wX::.inBlock 0::[])) cs) W:=by
 have hO:opk w2o 0=some (some 8,.recv 190 (.tmp 7) true,none):=by kernel_rfl
 obtain⟨ty,pos,after,ho⟩:=dT hO
 have hre:∀(i:Nat) (a:Act) (W:World),Sls 30 a l→(∀(E:Goroutine→World→Prop),Closed Tryz.prog false E→E (G (b.at a (.inRegion w2o [0,1]::.code (sq2 wX)::.inLoop wX::.inBlock 0::[])) cs) W→E (G (b.at a (.code wX::.inLoop wX::.inBlock 0::[])) cs) W):=fun i a W hS E hE h=>by
  refine bU hE _ _ wX_is ?_
  exact aO hE _ _ 2 rfl (by kernel_rfl) h
 have hrc:∀(a:Act),Sls 30 a l→RcAt Tryz.prog c (.int .i64 0) (b.at a (.inRegion w2o [0,1]::.code (sq2 wX)::.inLoop wX::.inBlock 0::[])) cs:=fun a hS main w=>by
  refine(stepG_comm ho rfl hb (ld_recv (hS.ev hl.chan)).1).trans ?_
  rw[listed_none (ld_recv (hS.ev hl.chan)).2]
 intro m
 induction m with
 | zero=>
  intro i hi a W r hS hdf
  obtain rfl:i=N:=by omega
  rw[sends_nil]
  refine hre i a W hS _ (cR fun h r=>gg (D:=D) (fun x y=>hD x y) h r) (.stop ⟨_,_,_,rfl,hrc a hS,?_⟩)
  rw[ny ho]
  have hE:=cR (P:=Tryz.prog) (Q:=D) (fun h r=>hD h r)
  have hS1:Sls 30 (a.put (some 8) (.tuple #[.int .i64 0,.bool false])) ((8,.tuple #[.int .i64 0,.bool false])::l):=hS.put (by decide) _
  refine nA (d:=9) (x:=.tmp 8) (kk:=1) hE hb (by kernel_rfl) hS1 (by decide) (hS1.ev rfl) (.bool false) rfl fun a2 hS2 hd2=>?_
  refine ao hE ?_
  refine bU hE _ _ rfl ?_
  refine fW hE 9 _ _ rfl hS2 false (by rw[av,if_pos rfl]) ?_
  refine s_exit hE 0 rfl [] rfl ?_
  exact hend a2 W r (hd2.trans hdf)
 | succ m ih=>
  intro i hi a W r hS hdf
  rw[sends_cons (by omega)]
  refine hre i a W hS _ (cR fun h r=>gg (D:=D) (fun x y=>hD x y) h r) (.stop ⟨_,_,_,rfl,hrc a hS,?_⟩)
  rw[ny ho]
  have hE:=cR (P:=Tryz.prog) (Q:=RP Tryz.prog c D (sends (i+1) N) false) (fun h r=>gg (D:=D) (fun x y=>hD x y) h r)
  have hS1:Sls 30 (a.put (some 8) (.tuple #[cX i,.bool true])) ((8,.tuple #[cX i,.bool true])::l):=hS.put (by decide) _
  refine nA (d:=9) (x:=.tmp 8) (kk:=1) hE hb (by kernel_rfl) hS1 (by decide) (hS1.ev rfl) (.bool true) rfl fun a2 hS2 hd2=>?_
  refine ao hE ?_
  refine bU hE _ _ rfl ?_
  refine fW hE 9 _ _ rfl hS2 true (by rw[av,if_pos rfl]) ?_
  refine ju hE rfl ?_
  refine jv hE 1 _ rfl ?_
  refine bU hE _ _ rfl ?_
  refine aO hE _ _ 2 rfl (by kernel_rfl) ?_
  refine nA (d:=10) (x:=.tmp 8) (kk:=0) hE hb (by kernel_rfl) hS2 (by decide) (hS2.ev rfl) (cX i) rfl fun a3 hS3 hd3=>?_
  refine eO (d:=6) (x:=.tmp 10) hE hb (by kernel_rfl) hS3 (by decide) (cX i) (hS3.ev rfl) fun a4 hS4 hd4=>?_
  refine ao hE ?_
  have hS5:Sls 30 a4 ((6,cX i)::l):=hS4.sub fun t u e=>by
   rw[av] at e
   simp only[av]
   split at e
   ·rename_i x;subst x;simpa using e
   ·rename_i m1
    have n2:∀z,8≤z→¬(z=t):=fun z hz x=>by rw[←x,hl.free z (.inl hz)] at e;cases e
    simp only[m1,n2 10 (by decide),n2 9 (by decide),n2 8 (by decide),if_false]
    exact e
  refine h4 i (by omega) a4 W r hS5 (hd4.trans (hd3.trans (hd2.trans hdf))) _ hE _ _ _ hb hr fun e a' W' ⟨he,r',hS',hd'⟩=>?_
  subst he
  exact⟨trivial,jd hE (e_inLoop hE (ih (i+1) (by omega) a' W' r' hS' hd'))⟩
theorem e_defer{P:Program}{co:Bool}{E:Goroutine→World→Prop}{a:Act}{k:List Item}{W:World}{ops:Array Oper}{i:Nat}{rest:List Nat}(hE:Closed P co E)(hk:b.kind≠.early){f:FuncId}{x:Operand}{t:TypeId}(hO:opk ops i=some (none,.defer ⟨.value (.func f),#[x],#[t]⟩,none))
  (h:E (G (b.at ⟨a.tmps,dcall f #[a.eval x]::a.defers⟩ (.inRegion ops rest::k)) cs) W):E (G (b.at a (.inRegion ops (i::rest)::k)) cs) W:=by
 obtain⟨ty,pos,after,ho⟩:=dT hO
 exact hE.cw rfl (g':=G (b.at ⟨a.tmps,dcall f #[a.eval x]::a.defers⟩ (.inRegion ops rest::k)) cs) (fun main w=>by rw[stepG_defer ho rfl hk rfl];simp[Act.put]) h
def capt(Wg b11 b4 b3 b9 b10:Nat):Array Value:=#[ptr Wg,ptr b11,ptr b4,ptr b3,ptr b9,ptr b10]
def ltab(Wg b11 b4 b3 b9 b10 c:Nat):List (Nat×Value):=[(7,.chan (some c)),(0,ptr Wg),(1,ptr b11),(2,ptr b4),(3,ptr b3),(4,ptr b9),(5,ptr b10)]
def wDefer(Wg b11 b4 b3 b9 b10:Nat):Deferred:={target:=.fn (.func 114) (capt Wg b11 b4 b3 b9 b10),args:=#[]}
def act0(xs:Array Value):Act:={tmps:=(#[]++xs)++Array.replicate (30-(#[]++xs).size) undef,defers:=[]}
theorem born_114(xs:Array Value)(main:Bool)(w:World):stepG Tryz.prog main (born Tryz.prog {target:=.fn (.func 114) xs,args:=#[]}) w=.go (G ((baseD 114).at (act0 xs) [.code wB]) [m9 Tryz.prog]) w #[]:=by
 have hnt:Tryz.f114.ntmps=30:=by kernel_rfl
 have:=born_step (P:=Tryz.prog) (main:=main) (w:=w) (d:={target:=.fn (.func 114) xs,args:=#[]}) (fn:=Tryz.f114) (c:=wB) rfl Tryz.func114 (by kernel_rfl) (by kernel_rfl)
 rw[hnt] at this
 exact this
set_option maxRecDepth 100000 in
set_option maxHeartbeats 1000000 in
theorem work_child{F:World→Prop}(hF:∀{W W1},F W→Rv W W1→F W1){b11 b4 b3 b9 b10:Nat}{fz:Nat×Nat}(hw:Wm.heap[b11]? = some (.cells #[.chan (some c)] 190 fz))
  (h4:∀i,i<N→∀a W df,Rv Wm W→Sls 30 a ((6,cX i)::ltab Wg b11 b4 b3 b9 b10 c)→a.defers=df→wpJ Tryz.prog false (.region 4 w4o true) (fun e a' W'=>e=.normal∧Rv Wm W'∧Sls 30 a' (ltab Wg b11 b4 b3 b9 b10 c)∧a'.defers=df) a W)
  (hend:∀W,Rv Wm W→F W):Gs Tryz.prog (RP Tryz.prog c (DnQ Tryz.prog link.tWg Wg F) (sends 0 N) false) (born Tryz.prog (wDefer Wg b11 b4 b3 b9 b10)) Wm:=by
 have hD:∀{g W W1},DnQ Tryz.prog link.tWg Wg F g W→Rv W W1→DnQ Tryz.prog link.tWg Wg F g W1:=fun h r=>⟨h.1,hF h.2 r⟩
 have hE:=cR (P:=Tryz.prog) (Q:=RP Tryz.prog c (DnQ Tryz.prog link.tWg Wg F) (sends 0 N) false) (fun h r=>gg (D:=DnQ Tryz.prog link.tWg Wg F) (fun x y=>hD x y) h r)
 have hb:(baseD 114).kind≠.early:=by decide
 have hS0:Sls 30 (act0 (capt Wg b11 b4 b3 b9 b10)) [(0,ptr Wg),(1,ptr b11),(2,ptr b4),(3,ptr b3),(4,ptr b9),(5,ptr b10)]:=by
  refine⟨by simp[capt,act0],fun t v e=>?_⟩
  simp only[av] at e
  repeat' (split at e)
  all_goals first|(cases e;done)|(obtain rfl:=Oi e;rename_i x;subst x;kernel_rfl)
 refine hE.cw rfl (fun main w=>born_114 (capt Wg b11 b4 b3 b9 b10) main w) ?_
 have hd0:(act0 (capt Wg b11 b4 b3 b9 b10)).defers=[]:=rfl
 generalize act0 (capt Wg b11 b4 b3 b9 b10)=a0 at hS0 hd0 ⊢
 refine bU hE _ _ wB_is ?_
 refine aO hE _ _ 1 rfl (by kernel_rfl) ?_
 refine e_defer hE hb (f:=115) (x:=.tmp 0) (t:=198) (by kernel_rfl) ?_
 rw[hS0.ev rfl,hd0]
 refine ao hE ?_
 refine bU hE _ _ rfl ?_
 refine aO hE _ _ 1 rfl (by kernel_rfl) ?_
 have hS1:Sls 30 ⟨a0.tmps,[dcall 115 #[ptr Wg]]⟩ [(0,ptr Wg),(1,ptr b11),(2,ptr b4),(3,ptr b3),(4,ptr b9),(5,ptr b10)]:=hS0
 refine s_load1 (d:=7) (t:=190) (x:=.tmp 1) hE hb (by kernel_rfl) hS1 (by decide) (hS1.ev rfl) kR (fun _ h=>by cases h) (fun _ _ h=>by cases h) hw (.chan (some c)) rfl fun a1 hS2 hd1=>?_
 refine ao hE ?_
 refine jv hE 0 _ rfl (s_loop hE _ rfl ?_)
 refine work_loop (D:=DnQ Tryz.prog link.tWg Wg F) (df:=[dcall 115 #[ptr Wg]]) (Wm:=Wm) (l:=ltab Wg b11 b4 b3 b9 b10 c) hb rfl ⟨fun t ht=>?_,rfl⟩ (fun x y=>hD x y) (fun i hi a W r hS hd=>h4 i hi a W _ r hS hd) (fun a W r hd=>?_) N 0 (by omega) a1 Wm (Rv.refl _) hS2 hd1
 ·unfold ltab
  simp only[av]
  rw[if_neg (by omega),if_neg (by omega),if_neg (by omega),if_neg (by omega),if_neg (by omega),if_neg (by omega),if_neg (by omega)]
  rfl
 ·have hE:=cR (P:=Tryz.prog) (Q:=DnQ Tryz.prog link.tWg Wg F) (fun h r=>hD h r)
  refine e_end hE ?_
  have ha:a=⟨a.tmps,a.defers⟩:=rfl
  refine hE.cw rfl (fun main w=>stepG_unwind_enter (args:=#[ptr Wg]) (ds:=[]) (fn:=Tryz.f115) (c:=body_done link) hd Tryz.func115 (by kernel_rfl) (by kernel_rfl)) ?_
  refine .stop ⟨?_,hend W r⟩
  have hq:=quits_born (P:=Tryz.prog) (b:=baseD 114) (a:=⟨a.tmps,[]⟩) (todo:=[]) rfl rfl Tryz.func114 (by kernel_rfl)
  exact enter_as (Q:=DoneW Tryz.prog link.tWg Wg) (done_walk wgLib (qt:=2) (c:={ (baseD 114).at ⟨a.tmps,[]⟩ [] with mode:=.returning}) (cs:=[m9 Tryz.prog]) rfl hq) (by kernel_rfl)
end
def depsOf(o:Oper):List Nat:=(o.after.toList.filter (Region.binds .any)).map (·.on)
def kU(ops:Array Oper)(i:Nat)(ds:List Nat):Bool:=match ops[i]? with|some o=>ds.all fun j=>(depsOf o).any fun k=>Nat.beq k j|none=>false
theorem iF{ops:Array Oper}{i:Nat}{ds:List Nat}{o:Oper}(ho:ops[i]? = some o)(h:kU ops i ds=true){j:Nat}(hj:j∈ds):j∈depsOf o:=by
 unfold kU at h
 rw[ho] at h
 have:=List.all_eq_true.1 h j hj
 obtain⟨k,hk,e⟩:=List.any_eq_true.1 this
 obtain rfl:=Nb e
 exact hk
section
variable {P:Program}{co:Bool}{ops:Array Oper}{l:List (Nat×Value)}{nt:Nat}{Wm:World}{df:List Deferred}{vals:List (Option (Nat×Value))}{Q:Exit→Act→World→Prop}
def dstOf(x:Option (Nat×Value)):Option Nat:=x.map (·.1)
def vlOf(x:Option (Nat×Value)):Value:=(x.map (·.2)).getD undef
def bG(P:Program)(co:Bool)(ops:Array Oper)(l:List (Nat×Value))(nt:Nat)(Wm:World)(vals:List (Option (Nat×Value)))(i:Nat)(x:Option (Nat×Value)):Prop:=
 ∃op ty pos after,ops[i]? = some ⟨dstOf x,op,ty,pos,after,none⟩∧∀a W,Sls nt a l→Rv Wm W→(∀j∈depsOf ⟨dstOf x,op,ty,pos,after,none⟩,∀d v,vals[j]? = some (some (d,v))→a.tmps[d]? = some v)→∀K:Act→World→Prop,(∀W',Rv Wm W'→K (a.put (dstOf x) (vlOf x)) W')→OpJ P co ⟨dstOf x,op,ty,pos,after,none⟩ a W K
theorem bG.val{i d:Nat}{v:Value}{op:Op}{ds:List Nat}(hO:opk ops i=some (some d,op,none))(hd:kU ops i ds=true)
  (h:∀ty pos after a W,Sls nt a l→Rv Wm W→(∀j∈ds,∀d v,vals[j]? = some (some (d,v))→a.tmps[d]? = some v)→lz P a ⟨some d,op,ty,pos,after,none⟩ W v):bG P co ops l nt Wm vals i (some (d,v)):=by
 obtain⟨ty,pos,after,ho⟩:=dT hO
 refine⟨op,ty,pos,after,ho,fun a W hS r hdep K hK=>?_⟩
 have hr:=h ty pos after a W hS r (fun j hj=>hdep j (iF ho hd hj))
 exact⟨hr.1,fun W1 r1=>bK (hr.2 W1 r1) (hK W1 (r.trans r1))⟩
theorem getD_set{listed:Array Bool}{i j:Nat}(h:(listed.setIfInBounds i true).getD j false=true):j=i∨listed.getD j false=true:=by
 by_cases e:j=i
 ·exact .inl e
 ·right
  rw[Array.getD_eq_getD_getElem?,Array.getElem?_setIfInBounds_ne (Ne.symm e)] at h
  rw[Array.getD_eq_getD_getElem?]
  exact h
theorem any_vals{id:Nat}{a:Act}{W:World}(hm:P.follows .mixedOrders=true)(hB:mV ops ops.size=true)(hlen:vals.length=ops.size)
  (hdst:∀(j d:Nat) (v:Value),vals[j]? = some (some (d,v))→d<nt∧look l d=none) (hinj:∀(j j' d:Nat) (v v':Value),vals[j]? = some (some (d,v))→vals[j']? = some (some (d,v'))→j=j')
  (hst:∀(i:Nat) (x:Option (Nat×Value)),vals[i]? = some x→bG P co ops l nt Wm vals i x) (hS:Sls nt a l) (hdf:a.defers=df) (hr:Rv Wm W) (hQ:∀a' W',Sls nt a' l→a'.defers=df→Rv Wm W'→Q .normal a' W'):wpJ P co (.region id ops true) Q a W:=by
 refine jW hm fun W1 r1=>?_
 refine region_inv (n:=ops.size) hB (fun listed a W=>Sls nt a l∧a.defers=df∧Rv Wm W∧∀(j d:Nat) (v:Value),vals[j]? = some (some (d,v))→listed.getD j false=true→a.tmps[d]? = some v) ⟨hS,hdf,hr.trans r1,fun j d v _ h=>?_⟩ (fun listed a W i o inv hI hi ho hl hdep K hK=>?_) fun listed a W hI hall=>?_
 ·rw[getD_replicate_false] at h;cases h
 ·obtain⟨hS,hdf,hr,hv⟩:=hI
  have hx:vals[i]? = some vals[i]:=List.getElem?_eq_getElem (by rw[hlen];exact hi)
  generalize vals[i]=x at hx
  obtain⟨op,ty,pos,after,ho',hstep⟩:=hst i x hx
  obtain rfl:o=⟨dstOf x,op,ty,pos,after,none⟩:=by rw[ho] at ho';exact Oi ho'
  rw[if_pos (by rfl)]
  refine hstep a W hS hr (fun j hj d v hjv=>hv j d v hjv ?_) K fun W' r'=>hK _ _ ?_
  ·unfold depsOf at hj
   obtain⟨e,he,rfl⟩:=List.mem_map.1 hj
   rw[List.mem_filter] at he
   exact hdep e (by simpa using he.1) he.2
  ·cases x with
   | none=>
    refine⟨hS,hdf,r',fun j d v hj hlj=>?_⟩
    rcases getD_set hlj with e|e
    ·subst e;rw[hx] at hj;cases hj
    ·exact hv j d v hj e
   | some dv=>
    obtain⟨d0,v0⟩:=dv
    obtain⟨hd,hlo⟩:=hdst i d0 v0 hx
    refine⟨(hS.put hd v0).sub fun t u e=>?_,hdf,r',fun j d v hj hlj=>?_⟩
    ·rw[av,if_neg (fun x=>by rw[←x,hlo] at e;cases e)];exact e
    ·rcases getD_set hlj with e|e
     ·subst e
      rw[hx] at hj
      injection hj with hj;injection hj with hj;injection hj with h1 h2
      subst h1 h2
      exact fG (by rw[hS.1];exact hd)
     ·by_cases ed:d0=d
      ·subst ed
       obtain rfl:=hinj _ _ _ _ _ hj hx
       rw[hl] at e;cases e
      ·show (a.put (some d0) v0).tmps[d]? = some v
       rw[cn ed]
       exact hv j d v hj e
 ·have hd:ops.toList.drop ops.size=[]:=by simp
  rw[hd]
  exact hQ a W hI.1 hI.2.1 hI.2.2.1
end
def cx0:Cx Tryz.prog:={T:=types,G:=[],gm:=0,hT:=types_ok}
set_option maxRecDepth 100000 in
theorem entity_walk(p1:Option Addr)(n1 k1:Nat)(x2 x3 seen id:Int)(p:Option Addr)(n k:Nat):aX (C:=cx0) [] [] 0 ⟨[],[],[],4⟩ Tryz.f116 [.agg [.rs 4 0 (fun _=>[]),.v (.slice p1 n1 k1),.v (.int .u64 x2),.v (.int .i64 x3)],.v (.int .i64 seen),.agg [.v (.int .i64 id),.v (.slice p n k)]] fun v H _=>ai (.tup [.agg [.v (.int .i64 id),.v (.slice p n k)],.v (.slice none 0 0)]) H v:=by
 refine Ai (fun hb=>absurd hb (by decide)) (fun hb=>?_)
 repeat' (first|(refine Ai ?_ ?_)|(intro _))
 all_goals first|exact trivial|rfl|skip
theorem rv_of_gr{W W1:World}(h:Gr W W1):Rv W W1:=⟨h.os,h.tape,h.output,fun b o e=>by
 have hb:b<W.heap.size:=(Array.getElem?_eq_some_iff.1 e).1
 rw[Below.block h b hb];exact e⟩
def np(p0:Option Addr)(k0:Nat)(p1:Option Addr)(n1 k1:Nat)(x2 x3:Int):Value:=.agg #[.slice p0 0 k0,.slice p1 n1 k1,.int .u64 x2,.int .i64 x3]
def nq(id:Int)(p:Option Addr)(n k:Nat):Value:=.agg #[.int .i64 id,.slice p n k]
theorem entity_calls(p0:Option Addr)(k0:Nat)(p1:Option Addr)(n1 k1:Nat)(x2 x3 seen id:Int)(p:Option Addr)(n k:Nat)(W:World):bP Tryz.prog false 116 #[np p0 k0 p1 n1 k1 x2 x3,.int .i64 seen,nq id p n k] W fun e W'=>e=.returned (.tuple #[nq id p n k,.slice none 0 0])∧Rv W W':=by
 have ha:aj (ba fun _ _ _=>False) [.agg [.rs 4 0 (fun _=>[]),.v (.slice p1 n1 k1),.v (.int .u64 x2),.v (.int .i64 x3)],.v (.int .i64 seen),.agg [.v (.int .i64 id),.v (.slice p n k)]] [np p0 k0 p1 n1 k1 x2 x3,.int .i64 seen,nq id p n k]:=by
  refine⟨_,_,rfl,⟨_,⟨_,_,rfl,⟨p0,k0,rfl,Nat.zero_le _,fun i hi=>absurd hi (Nat.not_lt_zero _)⟩,_,_,rfl,rfl,_,_,rfl,rfl,_,_,rfl,rfl,rfl⟩,rfl⟩,_,_,rfl,rfl,_,_,rfl,⟨_,⟨_,_,rfl,rfl,_,_,rfl,rfl,rfl⟩,rfl⟩,rfl⟩
 have h:=m8 (C:=cx0) (Γ:=[]) (Fs:=[]) (d:=0) (f:=116) (fn:=Tryz.f116) (vs:=[np p0 k0 p1 n1 k1 x2 x3,.int .i64 seen,nq id p n k]) (ze:=fun _ _ _=>False) (W:=W) ⟨[],[],[],4⟩ follows Tryz.func116 (by kernel_rfl) ⟨Nat.zero_le _,fun b sb h=>by cases h⟩ (fun _ _ _ h=>h.elim)
  ha (entity_walk p1 n1 k1 x2 x3 seen id p n k)
 refine h.mono ?_
 rintro e W' ⟨val,z',rfl,hg,-,hd⟩
 refine⟨?_,rv_of_gr hg⟩
 obtain⟨u,hu,rfl⟩:=hd
 obtain⟨x,y,rfl,hx,hy⟩:=hu
 obtain⟨x1,y1,rfl,hx1,hy1⟩:=hy
 obtain⟨u2,hu2,rfl⟩:=hx
 obtain⟨x3,y3,rfl,hx3,hy3⟩:=hu2
 obtain⟨x4,y4,rfl,hx4,hy4⟩:=hy3
 obtain rfl:x1=_:=hx1
 obtain rfl:y1=[]:=hy1
 obtain rfl:x3=_:=hx3
 obtain rfl:x4=_:=hx4
 obtain rfl:y4=[]:=hy4
 rfl
end Go.Proofs.YtgigkennhdolpaaGreatDoor
