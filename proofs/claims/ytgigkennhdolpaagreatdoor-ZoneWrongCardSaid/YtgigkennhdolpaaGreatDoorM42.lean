/- Company, 44: a goroutine's first step and its last. -/
import Derived.Test.YtgigkennhdolpaaGreatDoorM26
import Derived.Conc.Own2
import Derived.Conc.DeferLaws
import Derived.Test.YtgigkennhdolpaaGreatDoorM40
import Derived.Test.YtgigkennhdolpaaGreatDoorM41
import Derived.Test.YtgigkennhdolpaaGreatDoorM17
namespace Go.Proofs.YtgigkennhdolpaaGreatDoor
open Go.Conc Go.RowKit
def oF(P:Program):Frame:={ (default:Frame) with fn:=P.funcs.size,defers:=[],mode:=.panicking [goexitEntry]}
section
variable {P:Program}{d:Deferred}{f:FuncId}{fn:Func}{c:Code}{xs cap:Array Value}{main:Bool}{w:World}{b:Frame}{a:Act}{todo:List Item}
theorem FC(hd:d = {target:=.fn (.func f) cap,args:=xs})(hf:P.funcs[f]? = some fn) (hname:(fn.name== "runtime.NumGoroutine")=false) (hb:fn.body=some c) :
  stepG P main (born P d) w=.go (G ((baseD f).at {tmps:=(xs++cap)++Array.replicate (fn.ntmps-(xs++cap).size) undef,defers:=[]} [.code c]) [oF P]) w #[]:=by
 have h1:¬fn.name = "runtime.NumGoroutine":=by simpa using hname
 rw[<-enter_atD (xs++cap) hf hb];subst hd;simp[born,oF,G,stepG,unwind,callDeferred,invoke,callFunc,hf,h1,hb,GStep.after,seen_none]
theorem AU(hk:b.kind=.deferred)(hd:a.defers=[])(hf:P.funcs[b.fn]? = some fn)(hr:fn.results=#[]):QuitsD P 2 0 (G {b.at a todo with mode:=.returning} [oF P]):=by refine .inr ⟨rfl,{frame:={oF P with mode:=.panicking [goexitEntry]},callers:=[],status:=.running,dying:=none},#[],by simp,λw=>?_,.inr ⟨rfl,{frame:={oF P with mode:=.panicking [goexitEntry]},callers:=[],status:=.finished,dying:=none},#[],by simp,λw=>?_,rfl,rfl⟩⟩;simp[G,stepG,unwind,doReturn,Frame.at,hk,hd,hf,results_none hr _ P w,events_results_none hr _ _,seen,GStep.after,oF];rfl;simp[stepG,unwind,oF,goexitEntry,GStep.after];have h0:(default:Frame).todo=[]:=rfl;simp[Frame.catches,h0]
end
open Go.Conc.Lib Go.ConcR.Gen Go.ConcN.Gen
open Go.ConcR (KK wgBlock WgAt stA smA rd wr mk DC0)
noncomputable def wB:Code:=eG Tryz.f114
noncomputable def wX:Code:=lin (bin (U6 (U6 wB)))
noncomputable def w0o:Array Oper:=Wo (Ve wB)
noncomputable def w1o:Array Oper:=Wo (Ve (U6 wB))
noncomputable def w2o:Array Oper:=Wo (Ve wX)
noncomputable def w3o:Array Oper:=Wo (Ve (bin (U6 (U6 wX))))
noncomputable def Xa:Array Oper:=Wo (U6 (bin (U6 (U6 wX))))
theorem Ry:wB=.seq (.region 0 w0o false) (.seq (.region 1 w1o false) (.block 0 (.loop wX))):=by kernel_rfl
theorem Rx:wX=.seq (.region 2 w2o false) (.seq (.cond (.tmp 9) .skip (.exit 0)) (.block 1 (.seq (.region 3 w3o false) (.region 4 Xa true)))):=by kernel_rfl
structure Ud (l:List (Nat×Value)) (c:Nat):Prop where
 free:∀t,8<=t∨t=6->look l t=none
 chan:look l 7=some (.chan (some c))
section
variable {c Wg:Nat}{l:List (Nat×Value)}{b:Frame}{cs:List Frame}{D:Goroutine->World->Prop}{Wm:World}{df:List Deferred}{N:Nat}
theorem C0{a:Act}{w:World}{ty:TypeId}{pos:String}{after:Array Edge}(h:a.eval (.tmp 7)=.chan (some c)) :
  (execOp a.eval ⟨some 8,.recv 190 (.tmp 7) true,ty,pos,after,none⟩).run Tryz.prog w=.ok (.comm #[rcase c (.int .i64 0)] true (.recv true)) w∧(execOp a.eval ⟨some 8,.recv 190 (.tmp 7) true,ty,pos,after,none⟩).events Tryz.prog w #[]=#[]:=by
 constructor;simp[go_sem,execOp,run_underlying mj,Tryz.zeroValue3,rcase];simpa[Act.eval] using h;simp[go_sem,execOp,run_underlying mj,Tryz.zeroValue3,h]
set_option maxHeartbeats 1000000 in
theorem Ei(hb:b.kind≠.early)(hr:b.roundOf=none)(hl:Ud l c)(hD:∀{g W W1},D g W->Rv W W1->D g W1)
  (h4:∀i,i<N->∀a W,Rv Wm W->Vy 30 a ((6,de i)::l)->a.defers=df->wpJ Tryz.prog false (.region 4 Xa true) (λe a' W'=>e=.normal∧Rv Wm W'∧Vy 30 a' l∧a'.defers=df) a W)
  (Zy:∀a W,Rv Wm W->a.defers=df->Gs Tryz.prog D (G (b.at a []) cs) W) :
  ∀(m i:Nat),i+m=N->∀a W,Rv Wm W->Vy 30 a l->a.defers=df->Gs Tryz.prog (RP Tryz.prog c D (sends i N) false) (G (b.at a (.code wX::.inLoop wX::.inBlock 0::[])) cs) W:=by
 have hO:WN w2o 0=some (some 8,.recv 190 (.tmp 7) true,none):=by kernel_rfl
 obtain⟨ty,pos,after,ho⟩:=eF hO;have hre:∀(i:Nat) (a:Act) (W:World),Vy 30 a l->(∀(E:Goroutine->World->Prop),Closed Tryz.prog false E->E (G (b.at a (.inRegion w2o [0,1]::.code (U6 wX)::.inLoop wX::.inBlock 0::[])) cs) W->E (G (b.at a (.code wX::.inLoop wX::.inBlock 0::[])) cs) W):=λi a W hS E hE h=>by refine bU hE _ _ Rx ?_;exact aQ hE _ _ 2 rfl (by kernel_rfl) h
 have hrc:∀(a:Act),Vy 30 a l->FY Tryz.prog c (.int .i64 0) (b.at a (.inRegion w2o [0,1]::.code (U6 wX)::.inLoop wX::.inBlock 0::[])) cs:=λa hS main w=>by refine(stepG_comm ho rfl hb (C0 (hS.ev hl.chan)).1).trans ?_;rw[listed_none (C0 (hS.ev hl.chan)).2]
 intro m
 induction m with
 | zero=>
  intro i hi a W r hS X9;obtain rfl:i=N:=(by omega);rw[uB];refine hre i a W hS _ (cV λh r=>gI (D:=D) (λx y=>hD x y) h r) (.stop ⟨_,_,_,rfl,hrc a hS,?_⟩);rw[oU ho];have hE:=cV (P:=Tryz.prog) (Q:=D) (λh r=>hD h r);have V1:Vy 30 (a.put (some 8) (.tuple #[.int .i64 0,.bool false])) ((8,.tuple #[.int .i64 0,.bool false])::l):=hS.put (by decide) _;refine oW (d:=9) (x:=.tmp 8) (kk:=1) hE hb (by kernel_rfl) V1 (by decide) (V1.ev rfl) (.bool false) rfl λa2 Wt Xe=>?_;refine ao hE ?_;refine bU hE _ _ rfl ?_;refine s_cond hE 9 _ _ rfl Wt false (by rw[au,Uw rfl]) ?_;refine s_exit hE 0 rfl [] rfl ?_;exact Zy a2 W r (Xe.trans X9)
 | succ m ih=>
  intro i hi a W r hS X9;rw[rK (by omega)];refine hre i a W hS _ (cV λh r=>gI (D:=D) (λx y=>hD x y) h r) (.stop ⟨_,_,_,rfl,hrc a hS,?_⟩);rw[oU ho];have hE:=cV (P:=Tryz.prog) (Q:=RP Tryz.prog c D (sends (i+1) N) false) (λh r=>gI (D:=D) (λx y=>hD x y) h r);have V1:Vy 30 (a.put (some 8) (.tuple #[de i,.bool true])) ((8,.tuple #[de i,.bool true])::l):=hS.put (by decide) _;refine oW (d:=9) (x:=.tmp 8) (kk:=1) hE hb (by kernel_rfl) V1 (by decide) (V1.ev rfl) (.bool true) rfl λa2 Wt Xe=>?_;refine ao hE ?_;refine bU hE _ _ rfl ?_;refine s_cond hE 9 _ _ rfl Wt true (by rw[au,Uw rfl]) ?_;refine kl hE rfl ?_;refine km hE 1 _ rfl ?_;refine bU hE _ _ rfl ?_;refine aQ hE _ _ 2 rfl (by kernel_rfl) ?_;refine oW (d:=10) (x:=.tmp 8) (kk:=0) hE hb (by kernel_rfl) Wt (by decide) (Wt.ev rfl) (de i) rfl λa3 XO hd3=>?_;refine fq (d:=6) (x:=.tmp 10) hE hb (by kernel_rfl) XO (by decide) (de i) (XO.ev rfl) λa4 YT hd4=>?_;refine ao hE ?_;have Xn:Vy 30 a4 ((6,de i)::l):=YT.sub λt u e=>(by rw[au] at e;simp only[au];split at e;rename_i x;subst x;simpa using e;rename_i m1;have n2:∀z,8<=z->¬(z=t):=λz hz x=>(by rw[<-x,hl.free z (.inl hz)] at e;cases e);simp only[m1,n2 10 (by decide),n2 9 (by decide),n2 8 (by decide),if_false];exact e);refine h4 i (by omega) a4 W r Xn (hd4.trans (hd3.trans (Xe.trans X9))) _ hE _ _ _ hb hr λe a' W' ⟨he,r',hS',XJ⟩=>?_;subst he;exact⟨trivial,fb hE (lV hE (ih (i+1) (by omega) a' W' r' hS' XJ))⟩
theorem MJ{P:Program}{co:Bool}{E:Goroutine->World->Prop}{a:Act}{k:List Item}{W:World}{ops:Array Oper}{i:Nat}{rest:List Nat}(hE:Closed P co E)(hk:b.kind≠.early){f:FuncId}{x:Operand}{t:TypeId}(hO:WN ops i=some (none,.defer ⟨.value (.func f),#[x],#[t]⟩,none))
  (h:E (G (b.at ⟨a.tmps,dcall f #[a.eval x]::a.defers⟩ (.inRegion ops rest::k)) cs) W):E (G (b.at a (.inRegion ops (i::rest)::k)) cs) W:=by
 obtain⟨ty,pos,after,ho⟩:=eF hO;exact hE.cg rfl (g':=G (b.at ⟨a.tmps,dcall f #[a.eval x]::a.defers⟩ (.inRegion ops rest::k)) cs) (λmain w=>by rw[stepG_defer ho rfl hk rfl];simp[Act.put]) h
def xa(Wg UN b4 b3 b9 U5:Nat):Array Value:=#[ptr Wg,ptr UN,ptr b4,ptr b3,ptr b9,ptr U5]
def Bh(Wg UN b4 b3 b9 U5 c:Nat):List (Nat×Value):=[(7,.chan (some c)),(0,ptr Wg),(1,ptr UN),(2,ptr b4),(3,ptr b3),(4,ptr b9),(5,ptr U5)]
def vz(Wg UN b4 b3 b9 U5:Nat):Deferred:={target:=.fn (.func 114) (xa Wg UN b4 b3 b9 U5),args:=#[]}
def Km(xs:Array Value):Act:={tmps:=(#[]++xs)++Array.replicate (30-(#[]++xs).size) undef,defers:=[]}
theorem J6(xs:Array Value)(main:Bool)(w:World):stepG Tryz.prog main (born Tryz.prog {target:=.fn (.func 114) xs,args:=#[]}) w=.go (G ((baseD 114).at (Km xs) [.code wB]) [oF Tryz.prog]) w #[]:=by
 have hnt:Tryz.f114.ntmps=30:=by kernel_rfl
 have:=FC (P:=Tryz.prog) (main:=main) (w:=w) (d:={target:=.fn (.func 114) xs,args:=#[]}) (fn:=Tryz.f114) (c:=wB) rfl Tryz.func114 (by kernel_rfl) (by kernel_rfl);rw[hnt] at this;exact this
set_option maxRecDepth 100000 in
set_option maxHeartbeats 1000000 in
theorem Av{F:World->Prop}(hF:∀{W W1},F W->Rv W W1->F W1){UN b4 b3 b9 U5:Nat}{fz:Nat×Nat}(hw:Wm.heap[UN]? = some (.cells #[.chan (some c)] 190 fz))
  (h4:∀i,i<N->∀a W df,Rv Wm W->Vy 30 a ((6,de i)::Bh Wg UN b4 b3 b9 U5 c)->a.defers=df->wpJ Tryz.prog false (.region 4 Xa true) (λe a' W'=>e=.normal∧Rv Wm W'∧Vy 30 a' (Bh Wg UN b4 b3 b9 U5 c)∧a'.defers=df) a W)
  (Zy:∀W,Rv Wm W->F W):Gs Tryz.prog (RP Tryz.prog c (Xs Tryz.prog link.tWg Wg F) (sends 0 N) false) (born Tryz.prog (vz Wg UN b4 b3 b9 U5)) Wm:=by
 have hD:∀{g W W1},Xs Tryz.prog link.tWg Wg F g W->Rv W W1->Xs Tryz.prog link.tWg Wg F g W1:=λh r=>⟨h.1,hF h.2 r⟩
 have hE:=cV (P:=Tryz.prog) (Q:=RP Tryz.prog c (Xs Tryz.prog link.tWg Wg F) (sends 0 N) false) (λh r=>gI (D:=Xs Tryz.prog link.tWg Wg F) (λx y=>hD x y) h r);have hb:(baseD 114).kind≠.early:=by decide
 have Yr:Vy 30 (Km (xa Wg UN b4 b3 b9 U5)) [(0,ptr Wg),(1,ptr UN),(2,ptr b4),(3,ptr b3),(4,ptr b9),(5,ptr U5)]:=by
  refine⟨by simp[xa,Km],λt v e=>?_⟩;simp only[au] at e;repeat' (split at e)
  all_goals first|(cases e;done)|(obtain rfl:=Oi e;rename_i x;subst x;kernel_rfl)
 refine hE.cg rfl (λmain w=>J6 (xa Wg UN b4 b3 b9 U5) main w) ?_;have Yh:(Km (xa Wg UN b4 b3 b9 U5)).defers=[]:=rfl;generalize Km (xa Wg UN b4 b3 b9 U5)=a0 at Yr Yh ⊢;refine bU hE _ _ Ry ?_;refine aQ hE _ _ 1 rfl (by kernel_rfl) ?_;refine MJ hE hb (f:=115) (x:=.tmp 0) (t:=198) (by kernel_rfl) ?_;rw[Yr.ev rfl,Yh];refine ao hE ?_;refine bU hE _ _ rfl ?_;refine aQ hE _ _ 1 rfl (by kernel_rfl) ?_;have V1:Vy 30 ⟨a0.tmps,[dcall 115 #[ptr Wg]]⟩ [(0,ptr Wg),(1,ptr UN),(2,ptr b4),(3,ptr b3),(4,ptr b9),(5,ptr U5)]:=Yr;refine qI (d:=7) (t:=190) (x:=.tmp 1) hE hb (by kernel_rfl) V1 (by decide) (V1.ev rfl) mj (λ_ h=>by cases h) (λ_ _ h=>by cases h) hw (.chan (some c)) rfl λa1 Wt Wl=>?_;refine ao hE ?_;refine km hE 0 _ rfl (vK hE _ rfl ?_);refine Ei (D:=Xs Tryz.prog link.tWg Wg F) (df:=[dcall 115 #[ptr Wg]]) (Wm:=Wm) (l:=Bh Wg UN b4 b3 b9 U5 c) hb rfl ⟨λt ht=>?_,rfl⟩ (λx y=>hD x y) (λi hi a W r hS hd=>h4 i hi a W _ r hS hd) (λa W r hd=>?_) N 0 (by omega) a1 Wm (Rv.refl _) Wt Wl;unfold Bh;simp only[au];rw[Uv (by omega),Uv (by omega),Uv (by omega),Uv (by omega),Uv (by omega),Uv (by omega),Uv (by omega)];rfl;have hE:=cV (P:=Tryz.prog) (Q:=Xs Tryz.prog link.tWg Wg F) (λh r=>hD h r);refine SR hE ?_;have ha:a=⟨a.tmps,a.defers⟩:=rfl;refine hE.cg rfl (λmain w=>stepG_unwind_enter (args:=#[ptr Wg]) (ds:=[]) (fn:=Tryz.f115) (c:=body_done link) hd Tryz.func115 (by kernel_rfl) (by kernel_rfl)) ?_;refine .stop ⟨?_,Zy W r⟩;have hq:=AU (P:=Tryz.prog) (b:=baseD 114) (a:=⟨a.tmps,[]⟩) (todo:=[]) rfl rfl Tryz.func114 (by kernel_rfl);exact ta (Q:=KO Tryz.prog link.tWg Wg) (Fe GY (qt:=2) (c:={ (baseD 114).at ⟨a.tmps,[]⟩ [] with mode:=.returning}) (cs:=[oF Tryz.prog]) rfl hq) (by kernel_rfl)
end
def wW(o:Oper):List Nat:=(o.after.toList.filter (Region.binds .any)).map (·.on)
def mn(ops:Array Oper)(i:Nat)(ds:List Nat):Bool:=match ops[i]? with|some o=>ds.all λj=>(wW o).any λk=>Nat.beq k j|none=>false
theorem jg{ops:Array Oper}{i:Nat}{ds:List Nat}{o:Oper}(ho:ops[i]? = some o)(h:mn ops i ds=true){j:Nat}(hj:j∈ds):j∈wW o:=by unfold mn at h;rw[ho] at h;have:=List.all_eq_true.1 h j hj;obtain⟨k,hk,e⟩:=List.any_eq_true.1 this;obtain rfl:=Nb e;exact hk
section
variable {P:Program}{co:Bool}{ops:Array Oper}{l:List (Nat×Value)}{nt:Nat}{Wm:World}{df:List Deferred}{vals:List (Option (Nat×Value))}{Q:Exit->Act->World->Prop}
def zq(x:Option (Nat×Value)):Option Nat:=x.map (·.1)
def TB(x:Option (Nat×Value)):Value:=(x.map (·.2)).getD undef
def bF(P:Program)(co:Bool)(ops:Array Oper)(l:List (Nat×Value))(nt:Nat)(Wm:World)(vals:List (Option (Nat×Value)))(i:Nat)(x:Option (Nat×Value)):Prop:=
 ∃op ty pos after,ops[i]? = some ⟨zq x,op,ty,pos,after,none⟩∧∀a W,Vy nt a l->Rv Wm W->(∀j∈wW ⟨zq x,op,ty,pos,after,none⟩,∀d v,vals[j]? = some (some (d,v))->a.tmps[d]? = some v)->∀K:Act->World->Prop,(∀W',Rv Wm W'->K (a.put (zq x) (TB x)) W')->OpJ P co ⟨zq x,op,ty,pos,after,none⟩ a W K
theorem bF.val{i d:Nat}{v:Value}{op:Op}{ds:List Nat}(hO:WN ops i=some (some d,op,none))(hd:mn ops i ds=true)
  (h:∀ty pos after a W,Vy nt a l->Rv Wm W->(∀j∈ds,∀d v,vals[j]? = some (some (d,v))->a.tmps[d]? = some v)->mM P a ⟨some d,op,ty,pos,after,none⟩ W v):bF P co ops l nt Wm vals i (some (d,v)):=by
 obtain⟨ty,pos,after,ho⟩:=eF hO;refine⟨op,ty,pos,after,ho,λa W hS r U0 K hK=>?_⟩;have hr:=h ty pos after a W hS r (λj hj=>U0 j (jg ho hd hj));exact⟨hr.1,λW1 r1=>bs (hr.2 W1 r1) (hK W1 (r.trans r1))⟩
theorem yQ{listed:Array Bool}{i j:Nat}(h:(listed.setIfInBounds i true).getD j false=true):j=i∨listed.getD j false=true:=by by_cases e:j=i;exact .inl e;right;rw[Array.getD_eq_getD_getElem?,Un (Ne.symm e)] at h;rw[Array.getD_eq_getD_getElem?];exact h
theorem Kh{id:Nat}{a:Act}{W:World}(hm:P.follows .mixedOrders=true)(hB:jO ops ops.size=true)(hlen:vals.length=ops.size)
  (Yz:∀(j d:Nat) (v:Value),vals[j]? = some (some (d,v))->d<nt∧look l d=none) (hinj:∀(j j' d:Nat) (v v':Value),vals[j]? = some (some (d,v))->vals[j']? = some (some (d,v'))->j=j')
  (U4:∀(i:Nat) (x:Option (Nat×Value)),vals[i]? = some x->bF P co ops l nt Wm vals i x) (hS:Vy nt a l) (X9:a.defers=df) (hr:Rv Wm W) (hQ:∀a' W',Vy nt a' l->a'.defers=df->Rv Wm W'->Q .normal a' W'):wpJ P co (.region id ops true) Q a W:=by
 refine rA hm λW1 r1=>?_;refine nu (n:=ops.size) hB (λlisted a W=>Vy nt a l∧a.defers=df∧Rv Wm W∧∀(j d:Nat) (v:Value),vals[j]? = some (some (d,v))->listed.getD j false=true->a.tmps[d]? = some v) ⟨hS,X9,hr.trans r1,λj d v _ h=>?_⟩ (λlisted a W i o inv hI hi ho hl U0 K hK=>?_) λlisted a W hI U1=>?_;rw[getD_replicate_false] at h;cases h
 ·obtain⟨hS,X9,hr,hv⟩:=hI;have hx:vals[i]? = some vals[i]:=UE (by rw[hlen];exact hi);generalize vals[i]=x at hx;obtain⟨op,ty,pos,after,Ws,Wk⟩:=U4 i x hx;obtain rfl:o=⟨zq x,op,ty,pos,after,none⟩:=(by rw[ho] at Ws;exact Oi Ws);rw[Uw (by rfl)];refine Wk a W hS hr (λj hj d v hjv=>hv j d v hjv ?_) K λW' r'=>hK _ _ ?_;unfold wW at hj;obtain⟨e,he,rfl⟩:=List.mem_map.1 hj;rw[List.mem_filter] at he;exact U0 e (by simpa using he.1) he.2;cases x with
  | none=>
   refine⟨hS,X9,r',λj d v hj hlj=>?_⟩;rcases yQ hlj with e|e;subst e;rw[hx] at hj;cases hj;exact hv j d v hj e
  | some dv=>
   obtain⟨d0,v0⟩:=dv;obtain⟨hd,hlo⟩:=Yz i d0 v0 hx;refine⟨(hS.put hd v0).sub λt u e=>?_,X9,r',λj d v hj hlj=>?_⟩;rw[au,Uv (λx=>by rw[<-x,hlo] at e;cases e)];exact e;rcases yQ hlj with e|e;subst e;rw[hx] at hj;injection hj with hj;injection hj with hj;injection hj with h1 h2;subst h1 h2;exact fX (by rw[hS.1];exact hd);by_cases ed:d0=d;subst ed;obtain rfl:=hinj _ _ _ _ _ hj hx;rw[hl] at e;cases e;show (a.put (some d0) v0).tmps[d]? = some v;rw[cr ed];exact hv j d v hj e
 have hd:ops.toList.drop ops.size=[]:=by simp
 rw[hd];exact hQ a W hI.1 hI.2.1 hI.2.2.1
end
def cx0:Cx Tryz.prog:={T:=types,G:=[],gm:=0,hT:=xz}
set_option maxRecDepth 100000 in
theorem zm(p1:Option Addr)(n1 k1:Nat)(x2 x3 seen id:Int)(p:Option Addr)(n k:Nat):aM (C:=cx0) [] [] 0 ⟨[],[],[],4⟩ Tryz.f116 [.agg [.rs 4 0 (λ_=>[]),.v (.slice p1 n1 k1),.v (.int .u64 x2),.v (.int .i64 x3)],.v (.int .i64 seen),.agg [.v (.int .i64 id),.v (.slice p n k)]] λv H _=>ae (.tup [.agg [.v (.int .i64 id),.v (.slice p n k)],.v (.slice none 0 0)]) H v:=by
 refine Ai (λhb=>Up hb (by decide)) (λhb=>?_);repeat' (first|refine Ai ?_ ?_|(intro _))
 all_goals first|exact trivial|rfl|skip
theorem Hn{W W1:World}(h:Gr W W1):Rv W W1:=⟨h.os,h.tape,h.output,λb o e=>by have hb:b<W.heap.size:=(E'.1 e).1;rw[Below.block h b hb];exact e⟩
def oM(p0:Option Addr)(k0:Nat)(p1:Option Addr)(n1 k1:Nat)(x2 x3:Int):Value:=.agg #[.slice p0 0 k0,.slice p1 n1 k1,.int .u64 x2,.int .i64 x3]
def oN(id:Int)(p:Option Addr)(n k:Nat):Value:=.agg #[.int .i64 id,.slice p n k]
theorem wV(p0:Option Addr)(k0:Nat)(p1:Option Addr)(n1 k1:Nat)(x2 x3 seen id:Int)(p:Option Addr)(n k:Nat)(W:World):br Tryz.prog false 116 #[oM p0 k0 p1 n1 k1 x2 x3,.int .i64 seen,oN id p n k] W λe W'=>e=.returned (.tuple #[oN id p n k,.slice none 0 0])∧Rv W W':=by
 have ha:aj (aD λ_ _ _=>False) [.agg [.rs 4 0 (λ_=>[]),.v (.slice p1 n1 k1),.v (.int .u64 x2),.v (.int .i64 x3)],.v (.int .i64 seen),.agg [.v (.int .i64 id),.v (.slice p n k)]] [oM p0 k0 p1 n1 k1 x2 x3,.int .i64 seen,oN id p n k]:=by refine⟨_,_,rfl,⟨_,⟨_,_,rfl,⟨p0,k0,rfl,Ui _,λi hi=>Up hi (F' _)⟩,_,_,rfl,rfl,_,_,rfl,rfl,_,_,rfl,rfl,rfl⟩,rfl⟩,_,_,rfl,rfl,_,_,rfl,⟨_,⟨_,_,rfl,rfl,_,_,rfl,rfl,rfl⟩,rfl⟩,rfl⟩
 have h:=oE (C:=cx0) (Γ:=[]) (Fs:=[]) (d:=0) (f:=116) (fn:=Tryz.f116) (vs:=[oM p0 k0 p1 n1 k1 x2 x3,.int .i64 seen,oN id p n k]) (ze:=λ_ _ _=>False) (W:=W) ⟨[],[],[],4⟩ follows Tryz.func116 (by kernel_rfl) ⟨Ui _,λb sb h=>by cases h⟩ (λ_ _ _ h=>h.elim)
  ha (zm p1 n1 k1 x2 x3 seen id p n k)
 refine h.mono ?_;rintro e W' ⟨val,z',rfl,hg,-,hd⟩;refine⟨?_,Hn hg⟩;obtain⟨u,hu,rfl⟩:=hd;obtain⟨x,y,rfl,hx,hy⟩:=hu;obtain⟨x1,y1,rfl,hx1,hy1⟩:=hy;obtain⟨u2,hu2,rfl⟩:=hx;obtain⟨x3,y3,rfl,hx3,hy3⟩:=hu2;obtain⟨x4,y4,rfl,hx4,hy4⟩:=hy3;obtain rfl:x1=_:=hx1;obtain rfl:y1=[]:=hy1;obtain rfl:x3=_:=hx3;obtain rfl:x4=_:=hx4;obtain rfl:y4=[]:=hy4;rfl
end Go.Proofs.YtgigkennhdolpaaGreatDoor
