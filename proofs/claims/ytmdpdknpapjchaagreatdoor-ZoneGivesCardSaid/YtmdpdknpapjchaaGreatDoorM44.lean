/- Company, 49: workers.Parallel with one. -/
import Derived.Test.YtmdpdknpapjchaaGreatDoorM43
set_option linter.all false
namespace Go.Proofs.YtmdpdknpapjchaaGreatDoor
set_option maxRecDepth 100000
noncomputable section
section
open Go.Conc Go.RowKit
open Go.Conc.Lib Go.ConcR.Gen Go.ConcN.Gen
open Go.ConcR (KK wgBlock WgAt stA smA rd wr mk DC0)
variable {a:Act}{N Wg Yc b b3 b4 b9 c:Nat}{x:Operand}{t:TypeId}{W1 W9 w00:World}
structure M5 (W:World) (N b4 b3 b9 Yc:Nat) where
 cs9:Array Value
 cs10:Array Value
 cs3:Array Value
 ce:Array Value
 cf:Array Value
 fz9:Nat×Nat
 fz10:Nat×Nat
 fz3:Nat×Nat
 fz4:Nat×Nat
 be:Nat
 oe:Nat
 cap:Nat
 bf:Nat
 of_:Nat
 capf:Nat
 seen:Int
 p0:Option Addr
 k0:Nat
 p1:Option Addr
 n1:Nat
 k1:Nat
 x2:Int
 x3:Int
 h9:W.heap[b9]? = some (.cells cs9 28 fz9)
 sp:Option Addr
 sf:Option Addr
 h91:cs9[1]? = some (.slice sp N cap)
 hsp:0<N->sp=some ⟨be,oe,none⟩
 h10:W.heap[Yc]? = some (.cells cs10 175 fz10)
 h100:cs10[0]? = some (.slice sf N capf)
 hsf:0<N->sf=some ⟨bf,of_,none⟩
 h3:W.heap[b3]? = some (.cells cs3 28 fz3)
 h30:cs3[0]? = some (.int .i64 seen)
 h4:W.heap[b4]? = some (.cells #[.slice p0 0 k0,.slice p1 n1 k1,.int .u64 x2,.int .i64 x3] 33 fz4)
 hE:0<N->W.heap[be]? = some (.cells ce 39 (0,0))
 hEi:∀i,i<N->∃id p n k,ce[oe+i*2]? = some (.int .i64 id)∧ce[oe+i*2+1]? = some (.slice p n k)
 hF:0<N->W.heap[bf]? = some (.cells cf 66 (0,0))
 hFi:∀i,i<N->cf[of_+i]? = some (.slice none 0 0)
section
variable {P:Program}{W:World}{dst:Option Tmp}{ty:TypeId}{pos:String}{after:Array Edge}{guard:Option (Nat×Bool)}
theorem qN(W:World)(o:Obj):(W.alloc o).heap[W.heap.size]? = some o:=by show (W.heap.push o)[W.heap.size]? = some o;simp
theorem vl(W:World)(o:Obj):Rv W (W.alloc o):=⟨rfl,rfl,rfl,λb o' h=>by have hb:b<W.heap.size:=(E'.1 h).1;show (W.heap.push o)[b]? = _;rw[Array.getElem?_push,Xk (by omega)];exact h⟩
theorem w5{z:Value}(hz:∀w,(zeroValue t).run P w=.ok z w):(execOp a.eval ⟨dst,.alloc t,ty,pos,after,guard⟩).run P W=.ok (.value (.pointer (some ⟨W.heap.size,0,none⟩))) (W.alloc (.cells z.cells t)):=by simp only[execOp,Instr.alloc,Xz,hz,Xx,newVar,newRow,run_newObj,Xy];rfl
theorem wA : NS P (execOp a.eval ⟨dst,.alloc t,ty,pos,after,guard⟩):=aa (zY t) λ_=>trivial
theorem AQ{e:TypeId}{dir:ChanDir}{i:TypeInfo}(ht:P.underlying t=some (.chan dir e))(hi:P.info? e=some i)(hx:a.eval x=.int .i64 0):(execOp a.eval ⟨dst,.makeChan t x,ty,pos,after,guard⟩).run P W=.ok (.value (.chan (some W.heap.size))) (W.alloc (.chan 0 #[] false 0 0 false)):=by have:=run_makeChan (w:=W) ht hi .i64 0 (by decide) (by simp);simp only[execOp,hx,Xz];rw[show (Value.int IntKind.i64 0)=Value.int IntKind.i64 ((0:Nat):Int) from rfl,this];rfl
theorem zT{e:TypeId}{dir:ChanDir} : NS P (execOp a.eval ⟨dst,.makeChan t x,ty,pos,after,guard⟩):=by refine aa ?_ λ_=>trivial;refine aa (cK _) λ_=>aa (az _) λd=>?_;split;refine aa (aW _) λ_=>?_;split;refine aa (m:=runtimePanic _) (bn _) λ_=>?_;exact⟨trivial,λ_=>trivial⟩;exact⟨trivial,λ_=>trivial⟩;trivial
theorem Ht{y:Operand}{bt:TypeId}{u v:Value}(hs:∀w,(Go.sizeOf t).run P w=.ok 1 w)(e:a.eval x=.pointer (some ⟨b,0,none⟩))(hb:W.heap[b]? = some (.cells #[u] bt (0,0)))(hy:a.eval y=v)(hl:v.cells=#[v])(h1:v.oneCell'=true) :
  (execOp a.eval ⟨none,.store t x y,ty,pos,after,guard⟩).run P W=.ok .skip (W.setRow b #[v]):=by
 have Ya:=run_storeCells_at (P:=P) b 0 bt [v] 0 #[u] W hb (by simp) (by simpa using h1);simp only[execOp,e,hy,Instr.storeAt,Instr.sureAddr,storeVar,Xz,Xy,Xx,hs,hl];simp only[List.size_toArray,List.length_cons,List.length_nil,B',ne_eq,not_true_eq_false,if_false];rw[Ya];simp
end
def o5:Array Oper:=Zj (X6 p5)
def o6:Array Oper:=Zj (X6 p6)
theorem UY:p5=.seq (.region 5 o5 false) p6:=by kernel_rfl
theorem UX:p6=.seq (.region 6 o6 false) p7:=by kernel_rfl
structure T8 (l:List (Nat×Value)) (b3 b4 b9 Yc:Nat):Prop where
 free:∀t,38<=t∨t=13∨t=11∨t=12->look l t=none
 n:look l 2=some (dE 1)
 w:look l 3=some (ptr b3)
 s:look l 4=some (ptr b4)
 out:look l 9=some (ptr b9)
 fts:look l 10=some (ptr Yc)
theorem qG{Rm:Nat->Prop}{W Wm:World}(h:Ud c Wg Rm W Wm){cs:Array Value}{fz:Nat×Nat}(hb:W.heap[b]? = some (.cells cs t fz))(h1:b≠c)(h2:b≠Wg):∃fz',Wm.heap[b]? = some (.cells cs t fz')∧(¬Rm b->fz'=fz):=by by_cases hr:Rm b;obtain⟨cs',t',fr,hi,e1,e2,-⟩:=h.lent b hr;rw[hb] at e1;injection e1 with e1;injection e1 with x1 x2 x3;subst x1 x2;exact⟨_,e2,λx=>P' hr x⟩;exact⟨fz,(h.same b h1 h2 hr).trans hb,λ_=>rfl⟩
section
variable {XS:Nat}{b:Frame}{k:List Item}{cs:List Frame}{l:List (Nat×Value)}{Φ:Value->World->Prop}{S0:Nat->Prop}
def FW(W9:World)(c Wg b9 XS:Nat)(Wd:World):Prop:=∀(bb:Nat) (o:Obj),W9.heap[bb]? = some o->bb≠c->bb≠Wg->¬(bb=b9∨bb=XS)->Wd.heap[bb]? = some o
theorem uz{W:World}(h:FW W9 c Wg b9 XS W)(r:Rv W W1):FW W9 c Wg b9 XS W1:=λbb o h1 h2 h3 h4=>r.heap _ _ (h bb o h1 h2 h3 h4)
def GQ(c Wg b9 XS N:Nat)(b:Frame)(k:List Item)(cs:List Frame)(l:List (Nat×Value))(W9:World):Goroutine->World->Prop:=GoQ Tryz.prog c (λbb=>bb=b9∨bb=XS) (ClQ Tryz.prog link.tWg Wg c (rY b k cs l)) (DnQ Tryz.prog link.tWg Wg (FW W9 c Wg b9 XS)) (sends 0 N)
theorem K6{W:World}{g:Goroutine} : GQ c Wg b9 XS N b k cs l W9 g W->Rv W W1->GQ c Wg b9 XS N b k cs l W9 g W1:=
 λ⟨a,g1,ch,b,d0,d,e⟩ r=>⟨a,g1,ch,b,λx hx=>by obtain⟨o,ho⟩:=d0 x hx;exact⟨o,r.heap _ _ ho⟩,λW0 hW0=>d W0 λx hx=>by obtain⟨o,ho⟩:=d0 x hx;rw[hW0 x hx,r.heap _ _ ho,ho],e.later (λx y=>ig (D:=DnQ Tryz.prog link.tWg Wg (FW W9 c Wg b9 XS)) (λh r=>⟨h.1,uz h.2 r⟩) x y) r⟩
set_option maxHeartbeats 2000000 in
theorem GY(hb:b.kind≠.early)(hf:b.fn=77)(hl:T8 l b3 b4 b9 Yc){W:World}(X:M5 W N b4 b3 b9 Yc)(hN:N<9223372036854775807)(Y8:w00.heap.size<=W.heap.size)(r:Rv W W9)(n1:W.heap.size<=c)(n2:W.heap.size<=Wg)(n3:W.heap.size<=XS)(hcw:c≠Wg)(h11c:XS≠c)(h11w:XS≠Wg)(hWg:W9.heap[Wg]? = some (wgBlock link.tWg 0 0))(hc:W9.heap[c]? = some (.chan 0 #[] false 0 0 false))(h11:W9.heap[XS]? = some (.cells #[.chan (some c)] 176 (0,0)))(hS:YC 62 a ((40,dE 0)::(39,dE 1)::(12,ptr Wg)::(11,ptr XS)::l))(hd:a.defers=[])(hK:∀a' W',YC 62 a' l->a'.defers=[]->Rv W W'->Er Tryz.prog Φ w00 S0 (G (b.at a' (.code p19::k)) cs) W') :
  Er Tryz.prog Φ w00 S0 (G (Frame.enter Tryz.prog 94 #[ptr Wg,.int .i64 1] .normal) (b.at a (.inRegion o9 [0]::KF k)::cs)) W9:=by
 have ZM:QP ((12,ptr Wg)::(11,ptr XS)::l) XS Wg:=⟨λt ht=>by simp only[aA];rw[Xk (by omega),Xk (by omega)];exact hl.free t (by omega),rfl,rfl⟩
 have hO9:Zl o9 0=some (some 42,.call ⟨.value (.func 94),#[.tmp 12,.const (.int .i64 1)],#[184,3]⟩,none):=by kernel_rfl
 obtain⟨ty9,pos9,after9,ho9⟩:=dO hO9;have lt:∀{bb:Nat} {o:Obj},W.heap[bb]? = some o->bb<W.heap.size:=λh=>(E'.1 h).1;refine phase (ty:=link.tWg) (Wg:=Wg) (c:=c) (Rm:=λbb=>bb=b9∨bb=XS) (lent0:=λbb=>W9.heap[bb]?) (Fa:=IS b a o9 0 [] (KF k) cs) (Fin:=rY b k cs ((12,ptr Wg)::(11,ptr XS)::l)) (vs:=sends 0 N)
  (F:=FW W9 c Wg b9 XS) (λh r=>uz h r) (λg hg=>?_) (λg hg=>?_) hcw hWg hc ⟨by omega,by omega⟩ (λbb hbb=>?_) ?_ (λg hg W1 r1 Wm hcut=>?_) ?_
 obtain⟨a',-,-,rfl⟩:=hg;rfl;rw[hg.out];rfl;rcases hbb with rfl|rfl;have h9:=r.heap _ _ X.h9;have:=lt X.h9;refine⟨rfl,by omega,by omega,_,_,_,h9,?_⟩;have:=(E'.1 X.h91).1;omega;exact⟨rfl,h11w,h11c,_,_,_,h11,by simp⟩;exact uP (Q:=Uf Tryz.prog true link.tWg Wg (IS b a o9 0 [] (KF k) cs)) (MI I2 (b₀:=b) (a₀:=a) (ops₀:=o9) (i₀:=0) (rest₀:=[]) (k₀:=KF k) (cs:=cs)) (by kernel_rfl)
 ·obtain rfl:=hg.out;have hq:(o9[0]?).bind (·.dst)=some 42:=(by rw[ho9];rfl);rw[hq];have Y6:YC 62 (a.put (some 42) (.tuple #[])) ((40,dE 0)::(39,dE 1)::(12,ptr Wg)::(11,ptr XS)::l):=(hS.put (t:=42) (by decide) (.tuple #[])).drop (by simp only[aA];rw[Xk (by decide),Xk (by decide)];exact hl.free 42 (by omega));have Zk:(a.put (some 42) (.tuple #[])).defers=[]:=hd;generalize a.put (some 42) (.tuple #[])=a1 at Y6 Zk ⊢;have lk:∀{t:Nat} {v:Value},t<38->t≠11->t≠12->look l t=some v->look ((40,dE 0)::(39,dE 1)::(12,ptr Wg)::(11,ptr XS)::l) t=some v:=λh1 h2 h3 h4=>(by simp only[aA];rw[Xk (by omega),Xk (by omega),Xk (by omega),Xk (by omega)];exact h4);have hE:=dq (P:=Tryz.prog) (Q:=GQ c Wg b9 XS N b k cs ((12,ptr Wg)::(11,ptr XS)::l) W9) (λh r=>K6 h r);show Gs Tryz.prog (GQ c Wg b9 XS N b k cs ((12,ptr Wg)::(11,ptr XS)::l) W9) _ _;unfold KF;refine aw hE ?_;refine aR hE _ _ 2 rfl (by kernel_rfl) ?_;refine CB (d:=43) (fn:=.func 95) (first:=#[]) (captured:=#[.tmp 12,.tmp 11,.tmp 4,.tmp 3,.tmp 9,.tmp 10]) hE hb (by kernel_rfl) Y6 (by decide) λa2 Zu d2=>?_;have Ym:(#[.tmp 12,.tmp 11,.tmp 4,.tmp 3,.tmp 9,.tmp 10]:Array Operand).map a1.eval=yN Wg XS b4 b3 b9 Yc:=(by simp[yN,Y6.ev (t:=12) rfl,Y6.ev (t:=11) rfl,Y6.ev (lk (by decide) (by decide) (by decide) hl.s),Y6.ev (lk (by decide) (by decide) (by decide) hl.w),Y6.ev (lk (by decide) (by decide) (by decide) hl.out),Y6.ev (lk (by decide) (by decide) (by decide) hl.fts)]);rw[Ym,show (#[]:Array Operand).map a1.eval=#[] by simp] at Zu;have hO:Zl o10 1=some (none,.go ⟨.value (.tmp 43),#[],#[]⟩,none):=(by kernel_rfl);obtain⟨ty,pos,after,ho⟩:=dO hO;have hx:a2.eval (.tmp 43)=.func (.func 95) #[] (yN Wg XS b4 b3 b9 Yc):=Zu.ev rfl;have c9:=qG hcut (r1.heap _ _ (r.heap _ _ X.h9)) (by have:=lt X.h9;omega) (by have:=lt X.h9;omega);have c11:=qG hcut (r1.heap _ _ h11) h11c h11w;obtain⟨z9,c9,-⟩:=c9;obtain⟨z11,c11,-⟩:=c11;refine .stop ⟨rfl,G (b.at a2 (.inRegion o10 []::.inBlock 1::.code (.region 11 o11 false)::.inLoop pX1::.inBlock 0::.code p12::k)) cs,born Tryz.prog (xr Wg XS b4 b3 b9 Yc),λmain w=>?_,λbb hbb=>?_,λW0 hW0=>?_,?_⟩;have hr:(execOp a2.eval ⟨none,.go ⟨.value (.tmp 43),#[],#[]⟩,ty,pos,after,none⟩).run Tryz.prog w=.ok (.spawn (xr Wg XS b4 b3 b9 Yc)) w:=(by simp only[execOp,resolve,hx,Deferred.ofValue,Xz,Xy,Xx];simp[xr]);have he:(execOp a2.eval ⟨none,.go ⟨.value (.tmp 43),#[],#[]⟩,ty,pos,after,none⟩).events Tryz.prog w #[]=#[]:=(by simp only[execOp,resolve,hx,Deferred.ofValue];rfl);refine(stepG_spawn ho rfl hb hr rfl).trans ?_;rw[listed_none he];rfl;rcases hbb with rfl|rfl;exact⟨_,c9⟩;exact⟨_,c11⟩;refine yf hb hf ZM (b9:=b9) (by simp only[aA];rw[Xk (by decide),Xk (by decide)];exact hl.out) (hW0 b9 (.inl rfl)▸c9) X.h91 (hW0 XS (.inr rfl)▸c11) hN (Zu.drop (by simp only[aA];rw[Xk (by decide),Xk (by decide),Xk (by decide),Xk (by decide)];exact hl.free 43 (by omega))) (d2.trans Zk);have old:∀{bb:Nat} {ar:Array Value} {t:TypeId} {fz:Nat×Nat},W.heap[bb]? = some (.cells ar t fz)->∃fz',Wm.heap[bb]? = some (.cells ar t fz')∧(¬(bb=b9∨bb=XS)->fz'=fz):=λh=>qG hcut (r1.heap _ _ (r.heap _ _ h)) (by have:=lt h;omega) (by have:=lt h;omega);obtain⟨z3,c3,-⟩:=old X.h3;obtain⟨z4,c4,-⟩:=old X.h4;obtain⟨z10,c10,-⟩:=old X.h10;have ne:∀{bb:Nat} {ar:Array Value} {t:TypeId} {fz:Nat×Nat},W.heap[bb]? = some (.cells ar t fz)->t≠28->¬(bb=b9∨bb=XS):=λh ht=>(by rintro(rfl|rfl);rw[X.h9] at h;injection h with h;injection h with h1 h2 h3;exact ht h2.symm;have:=lt h;omega);have cE:0<N->Wm.heap[X.be]? = some (.cells X.ce 39 (0,0)):=λhN=>(by obtain⟨ze,ce,he⟩:=old (X.hE hN);rw[he (ne (X.hE hN) (by decide))] at ce;exact ce);have cF:0<N->Wm.heap[X.bf]? = some (.cells X.cf 66 (0,0)):=λhN=>(by obtain⟨zf,cf,hf'⟩:=old (X.hF hN);rw[hf' (ne (X.hF hN) (by decide))] at cf;exact cf);have Y:cP Wm N XS b4 b3 b9 Yc c:=⟨X.cs9,X.cs10,X.cs3,X.ce,X.cf,z9,z10,z3,z4,z11,X.be,X.oe,X.cap,X.bf,X.of_,X.capf,X.seen,X.p0,X.k0,X.p1,X.n1,X.k1,X.x2,X.x3,c9,X.sp,X.sf,X.h91,X.hsp,c10,X.h100,X.hsf,c3,X.h30,c4,c11,cE,X.hEi,cF,X.hFi⟩
  exact Cc (λh r=>uz h r) c11 (λi hi a W df r hS hd=>B9 Y i hi a W r hS hd) λW2 r2 bb o h1 h2 h3 h4=>r2.heap _ _ ((hcut.same bb h2 h3 h4).trans (r1.heap _ _ h1))
 rintro g ⟨a',hS',hd',rfl⟩ Wend W' SJ hF hpo hsame hlent hlo hWg' hbas;refine aw (np (co:=true)) (hK a' W' (hS'.sub λt u e=>?_) hd' ⟨hbas.os.trans r.os,hbas.tape.trans r.tape,hbas.output.trans r.output,λbb o h=>?_⟩);have n2:∀z,z=11∨z=12->¬(z=t):=λz hz x=>(by rw[<-x,hl.free z (by omega)] at e;cases e);simp only[aA];rw[Xk (n2 12 (by omega)),Xk (n2 11 (by omega))];exact e;have X0:=lt h;have h9:=r.heap _ _ h;by_cases hr:bb=b9∨bb=XS;exact(hlent bb hr).trans h9;have hF':=hF bb o h9 (by omega) (by omega) hr;by_cases hs:SJ bb;have e:=hpo bb hs;rw[hF'] at e;obtain rfl:=Oi e;rcases hlo bb hs (by have:=r.size;omega) with x|x|x;omega;omega;exact x;exact hsame bb o hs hr hF'
end
open Go.Conc.Lib Go.ConcR.Gen Go.ConcN.Gen
open Go.ConcR (KK wgBlock WgAt stA smA rd wr mk DC0)
theorem NP{W4 W6:World}{u v:Value}(r:Rv W4 W6)(hb:W6.heap[b]? = some (.cells #[u] t (0,0)))(hn:W4.heap.size<=b):Rv W4 (W6.setRow b #[v])∧(W6.setRow b #[v]).heap[b]? = some (.cells #[v] t (0,0)):=by
 refine⟨⟨r.os,r.tape,r.output,λbb o h=>?_⟩,setRow_heap W6 b _ _ t (0,0) hb⟩;have h6:=r.heap _ _ h;have hl:=(E'.1 h).1;have XW:¬b=bb:=by omega
 simp only[World.setRow,Array.getElem?_modify,Xk XW];exact h6
section
variable {b:Frame}{k:List Item}{cs:List Frame}{l:List (Nat×Value)}{Φ:Value->World->Prop}{S0:Nat->Prop}
set_option maxHeartbeats 2000000 in
theorem Ow(hb:b.kind≠.early)(hf:b.fn=77)(hl:T8 l b3 b4 b9 Yc){W:World}(X:∀W1,Rv W W1->Nonempty (M5 W1 N b4 b3 b9 Yc))(hN:N<9223372036854775807)(hS:YC 62 a l)(hd:a.defers=[])(hK:∀a' W',YC 62 a' l->a'.defers=[]->Rv W W'->Er Tryz.prog Φ w00 S0 (G (b.at a' (.code p19::k)) cs) W') :
  Er Tryz.prog Φ w00 S0 (G (b.at a (.code p5::k)) cs) W:=by
 refine Er.grown λW1 r1 hz=>?_;obtain⟨X⟩:=X W1 r1;have hE:=np (P:=Tryz.prog) (Φ:=Φ) (w00:=w00) (S0:=S0) (co:=true);have dr:∀{a1:Act} {v:Value} {d:Nat} {l':List (Nat×Value)},YC 62 a1 ((d,v)::l')->look l' d=none->YC 62 a1 l':=λh hd=>h.drop hd;obtain⟨infi,XX,-⟩:=qn (t:=3) rfl;refine b7 hE _ _ UY ?_;refine aR hE _ _ 3 rfl (by kernel_rfl) ?_;have hO0:Zl o5 0=some (some 38,.makeChan 176 (.const (.int .i64 0)),none):=by kernel_rfl
 obtain⟨ty0,pos0,after0,ho0⟩:=dO hO0;refine Bd hE hb ho0 rfl (zT (e:=3) (dir:=.both)) λW2 r2=>⟨_,_,AQ m7 XX rfl,?_⟩
 have hc2:=qN W2 (.chan 0 #[] false 0 0 false);have ra2:=vl W2 (.chan 0 #[] false 0 0 false);have Z5:W1.heap.size<=W2.heap.size:=r2.size;generalize W2.alloc (.chan 0 #[] false 0 0 false)=W3 at hc2 ra2 ⊢;generalize W2.heap.size=c at hc2 Z5 ⊢;have r3:=r2.trans ra2;have Y6:YC 62 (a.put (some 38) (.chan (some c))) ((38,.chan (some c))::l):=hS.put (by decide) _;show Er Tryz.prog Φ w00 S0 (G (b.at (a.put (some 38) (.chan (some c))) _) cs) W3;have Zk:(a.put (some 38) (.chan (some c))).defers=[]:=hd;generalize a.put (some 38) (.chan (some c))=a1 at Y6 Zk ⊢;have hO1:Zl o5 1=some (some 11,.alloc 176,none):=by kernel_rfl
 obtain⟨ty1,pos1,after1,ho1⟩:=dO hO1;refine Bd hE hb ho1 rfl wA λW4 r4=>⟨_,_,w5 Tryz.zeroValue176,?_⟩
 have h11:=qN W4 (.cells (Value.chan none).cells 176);have ra4:=vl W4 (.cells (Value.chan none).cells 176);have hc4:=r4.heap _ _ hc2;have hcl:=(E'.1 hc4).1;have r14:=r3.trans r4;have hs14:=r14.size;generalize W4.alloc (.cells (Value.chan none).cells 176)=W5 at h11 ra4 ⊢;have hb11:W4.heap.size=W4.heap.size:=rfl;generalize hq:W4.heap.size=XS at h11 ⊢;have Zu:YC 62 (a1.put (some 11) (ptr XS)) ((11,ptr XS)::(38,.chan (some c))::l):=Y6.put (by decide) _;show Er Tryz.prog Φ w00 S0 (G (b.at (a1.put (some 11) (ptr XS)) _) cs) W5;have ZN:(a1.put (some 11) (ptr XS)).defers=[]:=Zk;generalize a1.put (some 11) (ptr XS)=a2 at Zu ZN ⊢;have hO2:Zl o5 2=some (none,.store 176 (.tmp 11) (.tmp 38),none):=by kernel_rfl
 obtain⟨ty2,pos2,after2,ho2⟩:=dO hO2;refine Tv hE hb ho2 rfl (aa (lz _ _ _) λ_=>trivial) λW6 r6=>⟨_,Ht Tryz.sizeOf176 (Zu.ev rfl) (r6.heap _ _ h11) (Zu.ev rfl) rfl rfl,?_⟩
 obtain⟨r46,h11b⟩:=NP (v:=.chan (some c)) (ra4.trans r6) (r6.heap _ _ h11) (by omega);generalize W6.setRow XS #[.chan (some c)]=W7 at r46 h11b ⊢;show Er Tryz.prog Φ w00 S0 (G (b.at a2 _) cs) W7;refine aw hE ?_;refine b7 hE _ _ UX ?_;refine aR hE _ _ 1 rfl (by kernel_rfl) ?_;have hO3:Zl o6 0=some (some 12,.alloc 184,none):=by kernel_rfl
 obtain⟨ty3,pos3,after3,ho3⟩:=dO hO3;refine Bd hE hb ho3 rfl wA λW8 r8=>⟨_,_,w5 Tryz.zeroValue184,?_⟩
 have hWg:=qN W8 (wgBlock link.tWg 0 0);have ra8:=vl W8 (wgBlock link.tWg 0 0);have hW8:W7.heap.size<=W8.heap.size:=r8.size;have h11c:=(E'.1 h11b).1;have hc7:=r46.heap _ _ hc4;have hcl7:=(E'.1 hc7).1;have r19:=((r14.trans r46).trans r8).trans ra8;show Er Tryz.prog Φ w00 S0 (G (b.at (a2.put (some 12) (ptr W8.heap.size)) _) cs) (W8.alloc (wgBlock link.tWg 0 0));have hc9:=ra8.heap _ _ (r8.heap _ _ hc7);have h119:=ra8.heap _ _ (r8.heap _ _ h11b);generalize W8.alloc (wgBlock link.tWg 0 0)=W9 at hWg r19 hc9 h119 ⊢;generalize W8.heap.size=Wg at hWg hW8 ⊢;have hS3:YC 62 (a2.put (some 12) (ptr Wg)) ((12,ptr Wg)::(11,ptr XS)::l):=((Zu.put (t:=12) (by decide) (ptr Wg))).sub λt u e=>by simp only[aA] at e ⊢;split at e;rename_i x;rw[Xl x];exact e;rename_i m1;rw[Xk m1];split at e;rename_i x;rw[Xl x];exact e;rename_i m2;have n38:¬(38=t):=λx=>(by rw[<-x,hl.free 38 (by omega)] at e;cases e);rw[Xk m2,Xk n38];exact e
 have hd3:(a2.put (some 12) (ptr Wg)).defers=[]:=ZN;generalize a2.put (some 12) (ptr Wg)=a3 at hS3 hd3 ⊢;refine aw hE ?_;refine b7 hE _ _ UW ?_;refine b7 hE _ _ rfl ?_;refine aR hE _ _ 2 rfl (by kernel_rfl) ?_;have lk:∀{t:Nat} {v:Value},look l t=some v->look ((12,ptr Wg)::(11,ptr XS)::l) t=some v:=λ{t v} h=>by have n2:∀z,z=11∨z=12->¬(z=t):=λz hz x=>(by rw[<-x,hl.free z (by omega)] at h;cases h);simp only[aA];rw[Xk (n2 12 (by omega)),Xk (n2 11 (by omega))];exact h
 refine dM (d:=39) (x:=.tmp 2) hE hb (by kernel_rfl) hS3 (by decide) (dE 1) (hS3.ev (lk hl.n)) λa4 hS4 d4=>?_;refine dM (d:=40) (x:=.const (.int .i64 0)) hE hb (by kernel_rfl) hS4 (by decide) (dE 0) rfl λa5 Z6 d5=>?_;refine aw hE ?_;refine lf hE 0 _ rfl (xE hE _ rfl ?_);refine b7 hE _ _ JY ?_;refine aR hE _ _ 1 rfl (by kernel_rfl) ?_;refine wm (d:=41) (t:=3) (yt:=3) (x:=.tmp 40) (y:=.tmp 39) hE hb (by kernel_rfl) Z6 (by decide) (Z6.ev rfl) (Z6.ev rfl) λa6 hS6 d6=>?_;refine aw hE ?_;refine b7 hE _ _ rfl ?_;refine s_cond hE 41 _ _ rfl hS6 true (by rw[aA,Xl rfl];rfl) ?_;refine k9 hE rfl ?_;refine b7 hE _ _ rfl ?_;refine lf hE 1 _ rfl ?_;refine b7 hE _ _ rfl ?_;refine aR hE _ _ 1 rfl (by kernel_rfl) ?_;have hS7:YC 62 a6 ((40,dE 0)::(39,dE 1)::(12,ptr Wg)::(11,ptr XS)::l):=hS6.drop (by simp only[aA];rw[Xk (by decide),Xk (by decide),Xk (by decide),Xk (by decide)];exact hl.free 41 (by omega));have hO9:Zl o9 0=some (some 42,.call ⟨.value (.func 94),#[.tmp 12,.const (.int .i64 1)],#[184,3]⟩,none):=by kernel_rfl
 obtain⟨ty9,pos9,after9,ho9⟩:=dO hO9;refine FD hE hb ho9 rfl (f:=94) (args:=#[ptr Wg,.int .i64 1]) (pb (x:=.func 94) rfl rfl (λargs=>jL Tryz.func94 (by kernel_rfl) args)) (λWx _=>?_) ?_;have e12:=hS7.ev (t:=12) rfl;exact pq (x:=.func 94) rfl rfl Tryz.call94 (by simp[e12];rfl);exact GY hb hf hl X hN hz r19 Z5 (by omega) (by omega) (by omega) (by omega) (by omega) hWg hc9 h119 hS7 (d6.trans (d5.trans (d4.trans hd3))) λa' W' hS' hd' r'=>hK a' W' hS' hd' (r1.trans r')
end
end
section
open Go.RowKit Go.Conc
variable {a:Act}{after:Array Edge}{co:Bool}{x:Operand}{pos:String}
def lB:Code:=eK Tryz.f189
theorem Vi:lB=.seq (.region 0 (Zj (X6 lB)) false) (.seq (.seq (.region 1 (Zj (X6 (X6 (X3 lB)))) false) (.cond (.tmp 4) (cn1 (X3 (X6 (X3 lB)))) .skip)) (.seq (.seq (.region 4 (Zj (X6 (X6 (X3 (X3 lB))))) false) (.cond (.tmp 8) (cn1 (X3 (X6 (X3 (X3 lB))))) .skip)) (.seq (.seq (.region 7 (Zj (X6 (X6 (X3 (X3 (X3 lB)))))) false) (.cond (.tmp 14) (cn1 (X3 (X6 (X3 (X3 (X3 lB)))))) .skip)) (.seq (.region 10 (Zj (X6 (X3 (X3 (X3 (X3 lB)))))) false) .ret)))):=by kernel_rfl
def Je:Value:=match Zl (Zj (X6 (X3 (X3 (X3 (X3 lB)))))) 3 with|some (_,.index _ (.const v) _,_)=>v|_=>undef
theorem wo{P:Program}{W:World}{dst:Option Tmp}{ty:TypeId}{guard:Option (Nat×Bool)}{s t:TypeId}{k k':IntKind}(hx:a.eval x=.int k 0)(hs:P.underlying s=some (.int k))(ht:P.underlying t=some (.int k')):mX P a ⟨dst,.convert s t x,ty,pos,after,guard⟩ W (.int k' 0):=by
 refine⟨aa (by rw[hx];exact tT ht) λ_=>trivial,λW1 _=>?_⟩;have:(convert s t (.int k 0)).run P W1=.ok (.int k' 0) W1:=by have hw:k'.wrap 0=0:=(by cases k'<;>rfl);simp[convert,run_underlying hs,run_underlying ht,Conv.intToInt,hw]
 simp only[execOp,hx,Xz,this,Xx,Xy]
theorem Jt{W:World}{dst:Option Tmp}{ty:TypeId}{guard:Option (Nat×Bool)}(hx:a.eval x=.int .u8 0):mX Tryz.prog a ⟨dst,.index 9 (.const Je) x,ty,pos,after,guard⟩ W (.int .u8 0):=by
 refine⟨aa (zV _ _ _) λ_=>trivial,λW1 _=>?_⟩;have:(Instr.index 9 Je (.int .u8 0)).run Tryz.prog W1=.ok (.int .u8 0) W1:=by kernel_rfl
 have e:a.eval (.const Je)=Je:=rfl;simp only[execOp,hx,e,Xz,this,Xx,Xy]
theorem Jp{P:Program}{E:Goroutine->World->Prop}{b:Frame}{k:List Item}{cs:List Frame}{W:World}{n:Nat}{l:List (Nat×Value)}{ops:Array Oper}{i d:Nat}{rest:List Nat}(hE:Closed P co E)(hk:b.kind≠.early){t yt:TypeId}{y:Operand}{p q:Int}(hO:Zl ops i=some (some d,.binOp .geq t x y yt,none))(hS:YC n a l)(hd:d<n)(hx:a.eval x=.int .u64 p)(hy:a.eval y=.int .u64 q)(h:Nxt E b k cs ops rest n d a l (.bool (decide (p>=q))) W):E (G (b.at a (.inRegion ops (i::rest)::k)) cs) W:=
 iO hE hk hO hS hd _ (λ_ _ _=>ku hx hy λw=>rfl) h
set_option maxHeartbeats 1000000 in
theorem Al(W:World):bj Tryz.prog co 189 #[.int .u64 0] W λe W'=>e=.returned (.int .i64 0)∧Rv W W':=by
 intro E hE cs hc;have hS0:YC 25 {tmps:=#[.int .u64 0]++Array.replicate 24 undef,defers:=[]} [(0,.int .u64 0)]:=⟨by simp,λt v e=>by
  simp only[aA] at e;split at e;rename_i x;subst x;obtain rfl:=Oi e;kernel_rfl
  ·cases e⟩
 have he:Frame.enter Tryz.prog 189 #[.int .u64 0] .normal=(base 189).at {tmps:=#[.int .u64 0]++Array.replicate 24 undef,defers:=[]} [.code lB]:=by kernel_rfl
 rw[he];have hd0:({tmps:=#[.int .u64 0]++Array.replicate 24 undef,defers:=[]} : Act).defers=[]:=rfl;generalize ({tmps:=#[.int .u64 0]++Array.replicate 24 undef,defers:=[]} : Act)=a0 at hS0 hd0 ⊢;have hb:(base 189).kind≠.early:=by decide
 refine b7 hE _ _ Vi ?_;refine aR hE _ _ 1 rfl (by kernel_rfl) ?_;refine fN (d:=2) (x:=.const (.int .i64 0)) hE hb (by kernel_rfl) hS0 (by decide) (.int .i64 0) rfl λa1 Y6 d1=>?_;refine aw hE ?_;refine b7 hE _ _ rfl ?_;refine b7 hE _ _ rfl ?_;refine aR hE _ _ 2 rfl (by kernel_rfl) ?_;refine dM (d:=3) (x:=.tmp 0) hE hb (by kernel_rfl) Y6 (by decide) (.int .u64 0) (Y6.ev rfl) λa2 Zu d2=>?_;refine Jp (d:=4) (t:=31) (yt:=31) (x:=.tmp 3) (y:=.const (.int .u64 4294967296)) hE hb (by kernel_rfl) Zu (by decide) (Zu.ev rfl) rfl λa3 hS3 d3=>?_;refine aw hE ?_;refine s_cond hE 4 _ _ rfl hS3 false rfl ?_;refine k9 hE rfl ?_;refine b7 hE _ _ rfl ?_;refine b7 hE _ _ rfl ?_;refine aR hE _ _ 2 rfl (by kernel_rfl) ?_;refine dM (d:=7) (x:=.tmp 0) hE hb (by kernel_rfl) hS3 (by decide) (.int .u64 0) (hS3.ev rfl) λa4 hS4 d4=>?_;refine Jp (d:=8) (t:=31) (yt:=31) (x:=.tmp 7) (y:=.const (.int .u64 65536)) hE hb (by kernel_rfl) hS4 (by decide) (hS4.ev rfl) rfl λa5 Z6 d5=>?_;refine aw hE ?_;refine s_cond hE 8 _ _ rfl Z6 false rfl ?_;refine k9 hE rfl ?_;refine b7 hE _ _ rfl ?_;refine b7 hE _ _ rfl ?_;refine aR hE _ _ 2 rfl (by kernel_rfl) ?_;refine dM (d:=13) (x:=.tmp 0) hE hb (by kernel_rfl) Z6 (by decide) (.int .u64 0) (Z6.ev rfl) λa6 hS6 d6=>?_;refine Jp (d:=14) (t:=31) (yt:=31) (x:=.tmp 13) (y:=.const (.int .u64 256)) hE hb (by kernel_rfl) hS6 (by decide) (hS6.ev rfl) rfl λa7 hS7 d7=>?_;refine aw hE ?_;refine s_cond hE 14 _ _ rfl hS7 false rfl ?_;refine k9 hE rfl ?_;refine b7 hE _ _ rfl ?_;refine aR hE _ _ 7 rfl (by kernel_rfl) ?_;refine dM (d:=19) (x:=.tmp 2) hE hb (by kernel_rfl) hS7 (by decide) (.int .i64 0) (hS7.ev rfl) λa8 hS8 d8=>?_;refine dM (d:=20) (x:=.tmp 0) hE hb (by kernel_rfl) hS8 (by decide) (.int .u64 0) (hS8.ev rfl) λa9 hS9 d9=>?_;refine iO (d:=21) (op:=.convert 31 5 (.tmp 20)) hE hb (by kernel_rfl) hS9 (by decide) (.int .u8 0) (λ_ _ _=>wo (hS9.ev rfl) Tryz.underlying31 Tryz.underlying5) λa10 hS10 d10=>?_;refine iO (d:=22) (op:=.index 9 (.const Je) (.tmp 21)) hE hb (by kernel_rfl) hS10 (by decide) (.int .u8 0) (λ_ _ _=>Jt (hS10.ev rfl)) λa11 hS11 d11=>?_;refine iO (d:=23) (op:=.convert 5 3 (.tmp 22)) hE hb (by kernel_rfl) hS11 (by decide) (.int .i64 0) (λ_ _ _=>wo (hS11.ev rfl) Tryz.underlying5 Tryz.underlying3) λa12 hS12 d12=>?_;refine Jq (d:=24) (t:=3) (yt:=3) (x:=.tmp 19) (y:=.tmp 23) hE hb (by kernel_rfl) hS12 (by decide) (hS12.ev rfl) (hS12.ev rfl) λa13 hS13 d13=>?_;refine fN (d:=2) (x:=.tmp 24) hE hb (by kernel_rfl) hS13 (by decide) (.int .i64 0) (hS13.ev (by rfl)) λa14 hS14 d14=>?_;refine aw hE ?_;refine LG hE rfl ?_;have hr:Tryz.f189.results=#[.tmp 2]:=by kernel_rfl
 refine hc (.returned (.int .i64 0)) W _ ⟨rfl,Rv.refl W⟩ rfl ⟨rfl,?_,rfl,_,Tryz.func189,?_⟩;exact d14.trans (d13.trans (d12.trans (d11.trans (d10.trans (d9.trans (d8.trans (d7.trans (d6.trans (d5.trans (d4.trans (d3.trans (d2.trans (d1.trans hd0)))))))))))));rw[results_tmp hr];have:=hS14.ev (t:=2) rfl;exact O' (λv=>Result.ok v W) this
def P1:XR cx:=ru 189 Tryz.call189 (de (fl:=[]) (fn:=Tryz.f189) Tryz.func189 (by kernel_rfl)) (bh (Yp .u64)) (λx=>[x=0]) (λ_=>.v (.int .i64 0)) λx ze W vs hp hG hz hd=>by obtain rfl:x=0:=hp;obtain⟨u,w,rfl,rfl,rfl⟩:=hd;exact(Al W).mono λe W' ⟨h1,h2⟩=>⟨_,λ_ _ _=>False,h1,db h2,λ_ _ _ h=>h.elim,rfl⟩
end
section
open Go.RowKit
def Vp:Y0 cx:=⟨149,Tryz.call149,Tryz.f149,Tryz.func149,[],[],[],0,by kernel_rfl⟩
def S9:Y0 cx:=⟨180,Tryz.call180,Tryz.f180,Tryz.func180,[6],[],[],1,by kernel_rfl⟩
def Vo:Y0 cx:=⟨148,Tryz.call148,Tryz.f148,Tryz.func148,[],[],[],1,by kernel_rfl⟩
def Rz:SV:=.v (.func (.func 101) #[] #[])
set_option maxHeartbeats 2000000 in
theorem DC:∀x:SV×SV,aD ((λx=>[x.1=gG,x.2=Rz]) x)->aJ (C:=cx) [P1] [Vp,Vo,S9] 3 ⟨[],[],[],1⟩ Tryz.f100 ((aH YS YS).enc x) λv H _=>ae ((λ_=>.tup []) x) H v:=by
 intro⟨x,f⟩ ⟨hx,hf⟩;replace hx:x=gG:=hx;replace hf:f=Rz:=hf;subst hx hf;refine Ai rfl ?_;refine Ai ⟨by decide,by decide⟩ ?_;refine Ai (λhb=>?_) (λhb=>P' hb (by decide));refine Ai (λhb=>P' hb (by decide)) (λhb=>?_);repeat' first|apply Ai|exact rfl|intro
 all_goals first|exact trivial|(conv=>whnf)
def L3:XR cx:=af 100 Tryz.call100 (aH YS YS) _ _ (λ_=>⟨[],[],[],1⟩) [] (λ_=>rfl) follows Tryz.func100 (by kernel_rfl) DC
end
section
section
variable {PP:Program}
def Cx.par(C:Cx PP):Cx PP:={C with co:=true}
def XR.lift{C:Cx PP}(hc:C.co=false)(c:XR C):XR C.par where
 f:=c.f
 en:=c.en
 ns:=c.ns
 run:=c.run
 fresh:=c.fresh
 own:=c.own
 wr:=c.wr
 frz:=c.frz
 ok:=λze W args vs ob out hg hz hd hr ho=>by have h:=c.ok ze W args vs ob out hg hz hd hr ho;rw[hc] at h;exact bj.lift (co:=true) h
end
end
section
open Go.Conc Go.RowKit
variable {a:Act}{XN ρ:Names}{Yc b3 b4 b9:Nat}{st:St}{w0:World}{w:XU}{x:Z8}
abbrev Zi:Cx Tryz.prog:=cx.par
def vP:List (XR Zi):=[gl.lift rfl,va.lift rfl,HL.lift rfl]
def preB:Code:=.seq (X6 pB) (.seq (X6 p1) (.seq (X6 p3) (X6 p4)))
theorem UU:pB=.seq (X6 pB) p1:=by kernel_rfl
theorem U1:p1=.seq (X6 p1) p3:=by kernel_rfl
theorem U0:p3=.seq (X6 p3) p4:=by kernel_rfl
theorem UZ:p4=.seq (X6 p4) p5:=by kernel_rfl
def Has(st:St)(t:Nat)(v:SV):Prop:=∃q,look st.sl t=some q∧q.v=v∧q.g=[]
structure RF (w:XU) (x:Z8) (st:St):Prop where
 s2:Has st 2 (.v (.int .i64 1))
 s3:Has st 3 (.p 0 0)
 s4:Has st 4 (.p 1 0)
 s6:Has st 6 (.p 2 0)
 s9:Has st 9 (.p 4 0)
 s10:Has st 10 (.p 6 0)
 h0:look st.H 0=some (.lay [.v (.int .i64 w.tick),w.l.sv] 28)
 h1:look st.H 1=some (.lay x.cells 33)
 h2:look st.H 2=some (.lay [.il .i64 0,zZ] 28)
 h3:look st.H 3=some (.lst 3 2 w.l.n (λi=>(w.l.e i).cells) 39)
 h4:look st.H 4=some (.lay [.v (.int .i64 w.tick),.g 3 3 2 0 w.l.n] 28)
 h5:look st.H 5=some (.lst 5 1 w.l.n (λ_=>[zZ]) 66)
 h6:look st.H 6=some (.lay [.g 5 5 1 0 w.l.n] 175)
 nm:st.nm=7
set_option maxHeartbeats 2000000 in
theorem Sg(w:XU)(x:Z8)(hv:w.valid=true)(hs:w.l.Sm)(hn:w.l.n<=1000)(hc:∀i,i<w.l.n->(w.l.e i).l.n<=1000)(hx:x.vV):ev (C:=Zi) vP 62 0 (jB (C:=Zi) vP [] 0) (cd (C:=Zi) []) ⟨[1001],[],[],1⟩ preB ⟨bw 0 [w.sv,x.sv,.v (.int .i64 1)],[],0,0,[],[]⟩ (λex st=>ex=.normal∧RF w x st):=by refine Ai ⟨λ_ _ _ _=>trivial,hs⟩ ?_;refine Ai (λhw=>?_) (λhw=>by have hw:(!w.valid)=true:=hw;rw[hv] at hw;cases hw);refine Ai ⟨λ_ _=>trivial,λi hi=>P' (hx.p▸hi) (F1 _),hx⟩ ?_;refine Ai (λhb=>?_) (λhb=>P' hb (by decide));refine Ai (λhb=>P' hb (by decide)) (λhb=>?_);refine Ai ⟨λ_ _ _ _=>trivial,hc,hn⟩ ?_;refine Ai ⟨Int.natCast_nonneg _,Int.le_refl _,(Nat.le_trans (show w.l.n<=1000 from hn) (by decide)),(show w.l.n*24<=140737488355328 by omega)⟩ ?_;refine Ai rfl ?_;exact⟨⟨_,rfl,rfl,rfl⟩,⟨_,rfl,rfl,rfl⟩,⟨_,rfl,rfl,rfl⟩,⟨_,rfl,rfl,rfl⟩,⟨_,rfl,rfl,rfl⟩,⟨_,rfl,rfl,rfl⟩,rfl,rfl,rfl,rfl,rfl,rfl,rfl,rfl⟩
set_option maxHeartbeats 2000000
section
variable {PP:Program}{C:Cx PP}{nt:Nat}
theorem qp{W:World}(hR:Rp C nt w0 XN st ρ a W){t:Nat}{v:SV}(h:Has st t v):∃x,den ρ v x∧a.tmps[t]? = some x:=by obtain⟨q,h1,rfl,h3⟩:=h;exact hR.cw t q h1 h3
end
section
variable {W:World}
theorem Sl(P:RF w x st)(hx:x.systems.n=0)(hR:Rp Zi 62 w0 XN st ρ a W)(e3:ρ.n 0=some b3)(e4:ρ.n 1=some b4)(e9:ρ.n 4=some b9)(e10:ρ.n 6=some Yc):Nonempty (M5 W w.l.n b4 b3 b9 Yc):=by
 have one:∀{n b b':Nat},ρ.n n=some b->ρ.n n=some b'->b=b':=λh1 h2=>Oi (h1.symm.trans h2);obtain⟨q0,vs0,n0,d0,k0,-,-⟩:=hR.base.blk _ _ P.h0;obtain⟨q1,vs1,n1,d1,k1,-,-⟩:=hR.base.blk _ _ P.h1;obtain⟨q4,vs4,n4,d4,k4,-,-⟩:=hR.base.blk _ _ P.h4;obtain⟨q6,vs6,n6,d6,k6,-,-⟩:=hR.base.blk _ _ P.h6;obtain⟨l3,v3,o3,N3,c3,r3⟩:=hR.base.blk _ _ P.h3;obtain⟨l5,v5,o5,N5,c5,r5⟩:=hR.base.blk _ _ P.h5;obtain rfl:=one e3 n0;obtain rfl:=one e4 n1;obtain rfl:=one e9 n4;obtain rfl:=one e10 n6;obtain⟨x0,y0,rfl,rfl,x1,y1,rfl,dw,rfl⟩:=d0;obtain⟨ad,cap,rfl,-,-⟩:=dw;obtain⟨x0,y0,rfl,⟨aS0,ks,rfl,-,-⟩,x1,y1,rfl,⟨ap,kp,rfl,-,-⟩,x2,y2,rfl,rfl,x3,y3,rfl,rfl,rfl⟩:=d1;have k1:W.heap[b4]? = some (.cells #[.slice aS0 0 ks,.slice ap x.progs.n kp,.int .u64 x.seed,.int .i64 x.fuel] 33 (0,0)):=by rw[hx] at k1;exact k1
 obtain⟨x0,y0,rfl,rfl,x1,y1,rfl,dg,rfl⟩:=d4;obtain⟨l,g1,g2,g3,g4,sp,rfl,g6⟩:=dg;obtain rfl:l3=l:=Oi (v3.symm.trans g1);obtain⟨x0,y0,rfl,df,rfl⟩:=d6;obtain⟨l',f1,f2,f3,f4,sf,rfl,f6⟩:=df;obtain rfl:l5=l':=Oi (v5.symm.trans f1);have cE:0<w.l.n->∃be u,sp=some ⟨be,0,none⟩∧Zq W be u 39∧∀i,i<w.l.n->∃id p n k,u[0+i*2]? = some (.int .i64 id)∧u[0+i*2+1]? = some (.slice p n k):=λhN=>by obtain⟨be,u,ha,hk,-,-,-,hel⟩:=r3 (by omega);obtain⟨be',ha',hsp⟩:=g6 (by omega);rw[ha] at ha';obtain rfl:be=be':=(by injection ha' with x;injection x);refine⟨be,u.toArray,by rw[hsp],hk,λi hi=>?_⟩;obtain⟨us,hd,-,hc⟩:=hel i hi;obtain⟨p0,t0,rfl,rfl,p1,t1,rfl,⟨ad2,cap2,rfl,-,-⟩,rfl⟩:=hd;refine⟨(w.l.e i).iD,ad2,(w.l.e i).l.n,cap2,?_,?_⟩;have:=hc 0 _ rfl;simpa using this;have:=hc 1 _ rfl;simpa using this
 have cF:0<w.l.n->∃bf u,sf=some ⟨bf,0,none⟩∧Zq W bf u 66∧∀i,i<w.l.n->u[0+i]? = some (.slice none 0 0):=λhN=>by obtain⟨be,u,ha,hk,-,-,-,hel⟩:=r5 (by omega);obtain⟨be',ha',hsp⟩:=f6 (by omega);rw[ha] at ha';obtain rfl:be=be':=(by injection ha' with x;injection x);refine⟨be,u.toArray,by rw[hsp],hk,λi hi=>?_⟩;obtain⟨us,hd,-,hc⟩:=hel i hi;obtain⟨p0,t0,rfl,rfl,rfl⟩:=hd;have:=hc 0 _ rfl;simpa using this
 by_cases hN:0<w.l.n;obtain⟨be,u,rfl,hk,hel⟩:=cE hN;obtain⟨bf,uf,rfl,hkf,helf⟩:=cF hN;exact⟨⟨_,_,_,u,uf,_,_,_,_,be,0,_,bf,0,_,_,_,_,_,_,_,_,_,k4,_,_,rfl,λ_=>rfl,k6,rfl,λ_=>rfl,k0,rfl,k1,λ_=>hk,hel,λ_=>hkf,helf⟩⟩;exact⟨⟨_,_,_,#[],#[],_,_,_,_,0,0,_,0,0,_,_,_,_,_,_,_,_,_,k4,_,_,rfl,λh=>P' h hN,k6,rfl,λh=>P' h hN,k0,rfl,k1,λh=>P' h hN,λi hi=>P' hi (by omega),λh=>P' h hN,λi hi=>P' hi (by omega)⟩⟩
end
def stB(w:XU):St:=⟨[sl 6 (.p 2 0),sl 9 (.p 4 0),sl 10 (.p 6 0)],[(2,.lay [.il .i64 0,zZ] 28),(3,.lst 3 2 w.l.n (λi=>(w.l.e i).cells) 39),(4,.lay [.v (.int .i64 w.tick),.g 3 3 2 0 w.l.n] 28),(5,.lst 5 1 w.l.n (λ_=>[zZ]) 66),(6,.lay [.g 5 5 1 0 w.l.n] 175)],7,0,[],[]⟩
def Ti:List (XR Zi):=[Dj.lift rfl,L3.lift rfl]
def qa(w:XU):SV:=.tup [w.sv,gG,.v (.int .i64 0)]
theorem NL(w:XU)(hn:w.l.n<=1000):ev (C:=Zi) Ti 62 0 (jB (C:=Zi) Ti [] 0) (cd (C:=Zi) []) ⟨[],[],[],1⟩ p19 (stB w) (rT Zi Tryz.f77.results.toList λv H _=>ae (qa w) H v):=by
 refine Ai ⟨_,rfl,hn⟩ ?_;refine Ai ⟨rfl,rfl⟩ ?_;repeat' first|apply Ai|exact rfl|intro
 all_goals first|(rw[B'];done)|(rw[B'];rfl)|exact P' ‹_<0› (F1 _)
def OP(b3 b4 b6 b9 Yc:Nat):List (Nat×Value):=[(2,dE 1),(3,ptr b3),(4,ptr b4),(6,ptr b6),(9,ptr b9),(10,ptr Yc)]
theorem SR{b6:Nat} : T8 (OP b3 b4 b6 b9 Yc) b3 b4 b9 Yc:=⟨λt ht=>by unfold OP;simp only[aA];rw[Xk (by omega),Xk (by omega),Xk (by omega),Xk (by omega),Xk (by omega),Xk (by omega)];rfl,rfl,rfl,rfl,rfl,rfl⟩
theorem GZ{ze:Nat->Nat->Value->Prop}{W:World}{vs:List Value}(hv:w.valid=true)(hs:w.l.Sm)(hn:w.l.n<=1000)(hc:∀i,i<w.l.n->(w.l.e i).l.n<=1000)(hx:x.vV)(hG:Zi.ZQ W)(hz:∀b i c,ze b i c->W.cell? ⟨b,i,none⟩=some c∧c.oneCell'=true)(hd:au (aI ze) [w.sv,x.sv,.v (.int .i64 1)] vs) :
  bj Tryz.prog true 77 vs.toArray W λe W'=>∃v val H' Yl XM,e=.returned val∧ae (qa w) H' v∧Mem Zi W (aI ze).YE Yl XM W'∧(∀n sb,look H' n=some sb->cS XM W' n sb)∧den XM v val:=by
 refine HQ λΦ w00 S0 cs Zm=>?_;have hE:=np (P:=Tryz.prog) (Φ:=Φ) (w00:=w00) (S0:=S0) (co:=true);refine iC hE Tryz.func77 (c:=pB) (by kernel_rfl) Zm ?_;intro k h3;have hb:(c7 77).kind≠.early:=by decide
 have YL:(c7 77).roundOf=none:=rfl;have dN:∀n b,(aI ze).YE.n n=some b->n<0:=λn b h=>by cases h
 have dV:∀e l,(aI ze).YE.v e=some l->e<0∧l.o<0:=λn b h=>by cases h
 have dK:∀m i l,(aI ze).YE.k m i=some l->m<0:=λn i b h=>by cases h
 have hR0:=zE (C:=Zi) (n:=62) (show ([w.sv,x.sv,.v (.int .i64 1)]:List SV).length<=62 from(by decide:3<=62)) hG hz hd;have hnt:Tryz.f77.ntmps=62:=by kernel_rfl
 rw[hnt];refine xK (C:=Zi) (Γ:=vP) (h:=⟨[1001],[],[],1⟩) hE (cX (C:=Zi) (Γ:=vP) (Fs:=[]) follows 0) follows dN dV dK hb YL UU rfl (by kernel_rfl) (Sg w x hv hs hn hc hx) (λ_ _ h=>h.1) hR0 λst1 Yj a1 W1 he1 hR1=>?_;refine xK (C:=Zi) (Γ:=vP) (h:=⟨[1001],[],[],1⟩) hE (cX (C:=Zi) (Γ:=vP) (Fs:=[]) follows 0) follows dN dV dK hb YL U1 rfl (by kernel_rfl) he1 (λ_ _ h=>h.1) hR1 λst2 Y1 a2 W2 he2 hR2=>?_;refine xK (C:=Zi) (Γ:=vP) (h:=⟨[1001],[],[],1⟩) hE (cX (C:=Zi) (Γ:=vP) (Fs:=[]) follows 0) follows dN dV dK hb YL U0 rfl (by kernel_rfl) he2 (λ_ _ h=>h.1) hR2 λst3 ρ3 a3 W3 he3 hR3=>?_;refine SW (C:=Zi) (Γ:=vP) (h:=⟨[1001],[],[],1⟩) hE (cX (C:=Zi) (Γ:=vP) (Fs:=[]) follows 0) follows dN dV dK hb YL UZ (by kernel_rfl) he3 (λ_ _ h=>h.1) hR3 λst4 ρ4 a4 W4 hK4 hR4=>?_;have P:=hK4.2;obtain⟨x2,rfl,t2⟩:=qp hR4 P.s2;obtain⟨x3,⟨b3,n3,rfl⟩,t3⟩:=qp hR4 P.s3;obtain⟨x4,⟨b4,n4,rfl⟩,t4⟩:=qp hR4 P.s4;obtain⟨x6,⟨b6,n6,rfl⟩,t6⟩:=qp hR4 P.s6;obtain⟨x9,⟨b9,n9,rfl⟩,t9⟩:=qp hR4 P.s9;obtain⟨x10,⟨Yc,n10,rfl⟩,t10⟩:=qp hR4 P.s10;have hS:YC 62 a4 (OP b3 b4 b6 b9 Yc):=⟨hR4.base.sz,λt v e=>by
  unfold OP at e;simp only[aA] at e;repeat' split at e
  (all_goals first|(cases e;done)|skip);all_goals (obtain rfl:=Oi e;subst_vars;assumption)⟩
 refine Ow hb rfl SR (N:=w.l.n) (λW1 r=>Sl P hx.s (hR4.later r) n3 n4 n9 n10) (by omega) hS hR4.base.df λa5 W5 Z6 hd5 r5=>?_;have hR5:Rp Zi 62 W (aI ze).YE (stB w) ρ4 a5 W5:=by
  refine Jx hR4 r5 Z6.1 hd5 (P.nm▸rfl) (λn sb hn=>?_) (λt q hq=>?_)
  ·simp only[aA] at hn;repeat' split at hn
   (all_goals first|(cases hn;done)|skip);all_goals (obtain rfl:=Oi hn;subst_vars)
   exact P.h2;exact P.h3;exact P.h4;exact P.h5;exact P.h6
  have hq':look ((6,_)::(9,_)::(10,_)::[]) t=some q:=hq;simp only[aA] at hq';repeat' split at hq'
  (all_goals first|(cases hq';done)|skip);all_goals (obtain rfl:=Oi hq';subst_vars)
  exact⟨rfl,_,⟨b6,n6,rfl⟩,Z6.2 6 _ rfl⟩;exact⟨rfl,_,⟨b9,n9,rfl⟩,Z6.2 9 _ rfl⟩;exact⟨rfl,_,⟨Yc,n10,rfl⟩,Z6.2 10 _ rfl⟩
 refine(AV (C:=Zi) (XN:=(aI ze).YE) (cX (C:=Zi) (Γ:=Ti) (Fs:=[]) follows 0) follows dN dV dK p19 (stB w) _ (by kernel_rfl) (NL w hn) ρ4 a5 W5 hR5) _ hE _ k cs hb YL λe a6 W6 ⟨x',st6,ρ6,he',hK6,hR6⟩=>h3 e a6 W6 ?_;have key:qy Zi Tryz.f77.results.toList st6 (λv=>ae (qa w) st6.H v)->a6.defers=[]∧∃v,(results Tryz.f77 a6.tmps).run Tryz.prog W6=.ok v W6∧∃v' val H' Yl XM,Ending.returned v=.returned val∧ae (qa w) H' v'∧Mem Zi W (aI ze).YE Yl XM W6∧(∀n sb,look H' n=some sb->cS XM W6 n sb)∧den XM v' val:=by intro hk;obtain⟨v,h1,v',H',Yl,h2,h3,h4,h5⟩:=Dg (K:=λv H _=>ae (qa w) H v) rfl hR6 hk;exact⟨hR6.base.df,v,h1,v',v,H',Yl,ρ6,rfl,h2,h3,h4,h5⟩
 subst he';cases x' with
 | normal=>exact key hK6
 | exit i=>exact hK6.elim
 | ret=>exact key hK6
def yG:XR Zi:=ru 77 Tryz.call77 (de (fl:=[1001]) (fn:=Tryz.f77) Tryz.func77 (by kernel_rfl)) (eC cI nO (Yp .i64)) (λx=>[x.1.valid=true,x.1.l.Sm,x.1.l.n<=1000,∀i,i<x.1.l.n->(x.1.l.e i).l.n<=1000,x.2.1.vV,x.2.2=1]) (λx=>qa x.1) λx ze W vs hp hG hz hd=>by obtain⟨w,x,n⟩:=x;obtain⟨hv,hs,hn,hc,hx,rfl⟩:=hp;refine(GZ hv hs hn hc hx hG hz hd).mono λe W' ⟨v,val,H',Yl,XM,h1,h2,h3,h4,h5⟩=>?_;obtain⟨q1,q2,q3⟩:=pj h2 h3 h4 h5;exact⟨val,(zR XM W').z,h1,q1,q2,q3⟩
end
end
end Go.Proofs.YtmdpdknpapjchaaGreatDoor
