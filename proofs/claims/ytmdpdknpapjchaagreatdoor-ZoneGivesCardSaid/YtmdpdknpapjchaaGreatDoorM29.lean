/- compile.effects. -/
import Derived.Test.YtmdpdknpapjchaaGreatDoorM28
set_option linter.all false
namespace Go.Proofs.YtmdpdknpapjchaaGreatDoor
noncomputable section
section
open Go.RowKit
set_option maxRecDepth 8000
set_option maxHeartbeats 2000000
variable {a op x:Int}
def WR:List SV:=[i64 0,i64 0,i64 0,i64 1,i64 0,i64 1,i64 1,i64 0,i64 1,i64 1,i64 2,i64 0,i64 0,i64 1,i64 0,i64 1,i64 1,i64 1,i64 1,i64 1,i64 1,i64 1,i64 0,i64 0,i64 1,i64 0,i64 1,i64 0,i64 0,i64 0,i64 0,i64 0]
theorem Ng:∀a,aD ((λ_=>[]) a)->aJ (C:=cx) [] [] 0 ak Tryz.f72 ((CF).enc a) λv H _=>ae ((λ_=>.agg WR) a) H v:=by intro _ _;repeat' first|apply Ai|exact rfl|intro
def TP:XR cx:=af 72 Tryz.call72 (CF) _ _ (λ_=>ak) [] (λ_=>rfl) follows Tryz.func72 (by kernel_rfl) Ng
theorem nx1(h:op=11):ef ⟨op,x⟩ a=⟨1,λ_=>x⟩:=by unfold ef;rw[Xl h]
theorem nx2(h1:¬op=11)(h:op=12∨op=13):ef ⟨op,x⟩ a=⟨2,λk=>bif Nat.beq k 0 then a+1 else x⟩:=by unfold ef;rw[Xk h1,Xl h]
theorem nx3(h1:¬op=11)(h2:¬(op=12∨op=13))(h:op=14∨op=15):ef ⟨op,x⟩ a=⟨0,λ_=>0⟩:=by unfold ef;rw[Xk h1,Xk h2,Xl h]
theorem nx4(h1:¬op=11)(h2:¬(op=12∨op=13))(h:¬(op=14∨op=15)):ef ⟨op,x⟩ a=⟨1,λ_=>a+1⟩:=by unfold ef;rw[Xk h1,Xk h2,Xk h]
theorem M8:∀a,aD ((λa=>[0<=a.2∧a.2<=10000]) a)->aJ (C:=cx) [] [] 0 ak Tryz.f73 ((aH rb (Yp .i64)).enc a) λv H _=>ae ((λa=>.rs 1 (ef a.1 a.2).n (λk=>[.v (.int .i64 ((ef a.1 a.2).g k))])) a) H v:=by
 intro⟨⟨op,x⟩,a⟩ ha;replace ha:0<=a∧a<=10000:=ha
 suffices key:∀N,N=ef ⟨op,x⟩ a->aJ (C:=cx) [] [] 0 ak Tryz.f73 ((aH rb (Yp .i64)).enc (⟨op,x⟩,a)) λv H _=>ae (.rs 1 N.n (λk=>[.v (.int .i64 (N.g k))])) H v from key _ rfl
 intro N hN;refine Ai (λh=>?_) (λh=>?_)
 ·have h:op=11:=Od h;obtain rfl:=hN.trans (nx1 h);repeat' first|apply Ai|exact rfl|intro
  all_goals first|exact rfl|(rename_i i hi;obtain rfl:i=0:=(by omega);exact rfl)
 have h1:¬op=11:=Xg h;have tail2:(op=12∨op=13)->ef ⟨op,x⟩ a=⟨2,λk=>bif Nat.beq k 0 then a+1 else x⟩:=nx2 h1;refine Ai (λh=>?_) (λh=>?_)
 ·have h:op=12:=Od h;refine Ai (λ_=>?_) (λh'=>P' h (Xg h'));obtain rfl:=hN.trans (tail2 (.inl h));refine Ai (by unfold XT;omega:XT (a+1)) ?_;repeat' first|apply Ai|exact rfl|intro
  all_goals first|exact rfl|(rename_i i hi;obtain rfl|rfl:i=0∨i=1:=(by omega)<;>exact rfl)
 have h2:¬op=12:=Xg h;refine Ai (λh=>?_) (λh=>?_)
 ·have h:op=13:=Od h;obtain rfl:=hN.trans (tail2 (.inr h));refine Ai (by unfold XT;omega:XT (a+1)) ?_;repeat' first|apply Ai|exact rfl|intro
  all_goals first|exact rfl|(rename_i i hi;obtain rfl|rfl:i=0∨i=1:=(by omega)<;>exact rfl)
 have h3:¬op=13:=Xg h;have h23:¬(op=12∨op=13):=λh=>h.elim h2 h3;refine Ai (λh=>?_) (λh=>?_)
 ·have h:op=14:=Od h;refine Ai (λ_=>?_) (λh'=>P' h (Xg h'));obtain rfl:=hN.trans (nx3 h1 h23 (.inl h));repeat' first|apply Ai|exact rfl|intro
  all_goals first|exact P' ‹_<0› (F1 _)
 have h4:¬op=14:=Xg h;refine Ai (λh=>?_) (λh=>?_)
 ·have h:op=15:=Od h;obtain rfl:=hN.trans (nx3 h1 h23 (.inr h));repeat' first|apply Ai|exact rfl|intro
  all_goals first|exact P' ‹_<0› (F1 _)
 have h5:¬op=15:=Xg h;obtain rfl:=hN.trans (nx4 h1 h23 λh=>h.elim h4 h5);refine Ai (by unfold XT;omega:XT (a+1)) ?_;repeat' first|apply Ai|exact rfl|intro
 all_goals first|exact rfl|(rename_i i hi;obtain rfl:i=0:=(by omega);exact rfl)
def TJ:XR cx:=af 73 Tryz.call73 (aH rb (Yp .i64)) _ _ (λ_=>ak) [] (λ_=>rfl) follows Tryz.func73 (by kernel_rfl) M8
def KV:Y0 cx:=⟨89,Tryz.call89,Tryz.f89,Tryz.func89,[],[],[],0,by kernel_rfl⟩
theorem M0:∀a,aD ((λa=>[0<=a.1.locals∧a.1.locals<=32,(a.1.code.n:Int)<=4000]) a)->aJ (C:=cx) [] [KV] 1 ⟨[1016],[],[],0⟩ Tryz.f70 ((aH nQ rb).enc a) λv H _=>ae ((λa=>.v (.bool (lu a.1.code.n a.1.locals a.2))) a) H v:=by
 intro⟨⟨⟨n,e⟩,lo,rd,wr⟩,⟨op,x⟩⟩ ⟨hl,hn⟩;replace hl:0<=lo∧lo<=32:=hl;replace hn:(n:Int)<=4000:=hn
 suffices key:∀r,r=lu n lo ⟨op,x⟩->aJ (C:=cx) [] [KV] 1 ⟨[1016],[],[],0⟩ Tryz.f70 ((aH nQ rb).enc (⟨⟨n,e⟩,lo,rd,wr⟩,⟨op,x⟩)) λv H _=>ae (.v (.bool r)) H v from key _ rfl
 intro r hr;replace hr:r=(if op=1 then true else if op=2∨op=3 then decide (0<=x)&&decide (x<=lo-1) else if op=4∨op=5 then decide (1<=x)&&decide (x<=10) else if op=11∨op=12∨op=13 then decide (0<=x)&&decide (x<=(n:Int)) else if op=9 then(decide (7<=x)&&decide (x<=20))||(decide (23<=x)&&decide (x<=24)) else decide (1<=op)&&decide (op<=15)&&decide (x=0)):=hr;refine Ai (λh=>?_) (λh=>?_);have h:op=1:=Od h;exact hr.trans (by rw[Xl h]);have h1:¬op=1:=Xg h;rw[Xk h1] at hr;refine Ai (λh=>?_) (λh=>?_);have h:op=2:=Od h;refine Ai (λ_=>?_) (λh'=>P' h (Xg h'));rw[Xl (.inl h)] at hr;refine Ai (by unfold XT;omega:XT (lo-1)) ?_;exact hr;have h2:¬op=2:=Xg h;refine Ai (λh=>?_) (λh=>?_);have h:op=3:=Od h;rw[Xl (.inr h)] at hr;refine Ai (by unfold XT;omega:XT (lo-1)) ?_;exact hr;have h3:¬op=3:=Xg h;rw[Xk λh=>h.elim h2 h3] at hr;refine Ai (λh=>?_) (λh=>?_);have h:op=4:=Od h;refine Ai (λ_=>?_) (λh'=>P' h (Xg h'));rw[Xl (.inl h)] at hr;exact hr;have h4:¬op=4:=Xg h;refine Ai (λh=>?_) (λh=>?_);have h:op=5:=Od h;rw[Xl (.inr h)] at hr;exact hr;have h5:¬op=5:=Xg h;rw[Xk λh=>h.elim h4 h5] at hr;refine Ai (λh=>?_) (λh=>?_);have h:op=11:=Od h;refine Ai (λ_=>?_) (λh'=>P' h (Xg h'));rw[Xl (.inl h)] at hr;exact hr;have h11:¬op=11:=Xg h;refine Ai (λh=>?_) (λh=>?_);have h:op=12:=Od h;refine Ai (λ_=>?_) (λh'=>P' h (Xg h'));rw[Xl (.inr (.inl h))] at hr;exact hr;have h12:¬op=12:=Xg h;refine Ai (λh=>?_) (λh=>?_);have h:op=13:=Od h;rw[Xl (.inr (.inr h))] at hr;exact hr;have h13:¬op=13:=Xg h;rw[Xk λh=>h.elim h11 λh=>h.elim h12 h13] at hr;refine Ai (λh=>?_) (λh=>?_);have h:op=9:=Od h;rw[Xl h] at hr;refine Ai (λhc=>?_) (λhc=>?_);have hc:(decide (7<=x)&&decide (x<=20))=false:=hc;rw[hc] at hr;exact hr;have hc:(decide (7<=x)&&decide (x<=20))=true:=hc;exact hr.trans (by rw[hc];rfl);have h9:¬op=9:=Xg h;rw[Xk h9] at hr;exact hr
def TF:XR cx:=af 70 Tryz.call70 (aH nQ rb) _ _ (λ_=>⟨[1016],[],[],0⟩) [1016] (λ_=>rfl) follows Tryz.func70 (by kernel_rfl) M0
def Q8:SV->Zx
 | .f _ _ [.rp l _]=>Zx.of (.agg l)
 | _=>⟨⟨0,λ_=>⟨0,0⟩⟩,0,0,0⟩
def Zx.Ok(p:Zx):Prop:=(0<=p.locals∧p.locals<=32)∧(p.code.n:Int)<=4000
def UT:SV->Zx
 | .rp l _=>Zx.of (.agg l)
 | _=>⟨⟨0,λ_=>⟨0,0⟩⟩,0,0,0⟩
theorem MQ:∀a,aD ((λa=>[∃p:Zx,p.Ok∧a.2=.rp p.cells 0]) a)->aJ (C:=cx) [TF] [] 0 ak Tryz.f69 ((aH rb YS).enc a) λv H _=>ae ((λa=>.v (.bool (!lu (UT a.2).code.n (UT a.2).locals a.1))) a) H v:=by intro⟨i,x⟩ ⟨p,hp,hx⟩;replace hx:x=.rp p.cells 0:=hx;subst hx;refine Ai ⟨λ_ _=>trivial,hp.1,hp.2⟩ ?_;exact rfl
def Tz:XR cx:=af 69 Tryz.call69 (aH rb YS) _ _ (λ_=>ak) [] (λ_=>rfl) follows Tryz.func69 (by kernel_rfl) MQ
def SY(p:Zx):Cut:=⟨Nat,λk=>k<=p.code.n∧YK (gJ p) 0 p.code.n=YK (gJ p) k (p.code.n-k),λk=>⟨[sl 0 p.code.sv,sl 1 (.f (.func 69) [] [.rp p.cells 0]),sl 7 (i64 p.code.n),sl 8 (i64 k)],[],0,0,[],[]⟩,λk=>p.code.n-k⟩
theorem DT:∀a,aD ((λa=>[∃p:Zx,p.Ok∧a.1=p.code∧a.2=.f (.func 69) [] [.rp p.cells 0]]) a)->aJ (C:=cx) [Tz] [] 0 ⟨[],[],[2],0⟩ Tryz.f90 ((aH jv YS).enc a) λv H _=>ae ((λa=>.v (.int .i64 (YO (gJ (Q8 a.2)) a.1.n))) a) H v:=by
 intro⟨l,x⟩ ⟨p,hp,hl,hx⟩;replace hx:x=.f (.func 69) [] [.rp p.cells 0]:=hx;replace hl:l=p.code:=hl;subst hx hl;have hm:=hp.2;refine F8 (SY p) ?_;refine Ai ?_ ?_
 ·refine⟨(0:Nat),[],[],trivial,⟨F9 _,rfl⟩,?_⟩;repeat' first|apply Ai|exact rfl|intro
 refine fun(k:Nat) (hk:k<=p.code.n∧YK (gJ p) 0 p.code.n=YK (gJ p) k (p.code.n-k))=>?_;obtain⟨k1,k2⟩:=hk;refine Ai (λhb=>?_) (λhb=>?_)
 ·have hb:(k:Int)<p.code.n:=Od hb;have e0:=jz (g:=gJ p) (k:=k) (n:=p.code.n) (by omega);refine Ai ⟨by omega,by omega⟩ ?_;refine Ai ⟨p,hp,rfl⟩ ?_;refine Ai (λhc=>?_) (λhc=>?_);have hc:gJ p k=true:=hc;simp only[hc] at e0;exact iX (g:=gJ p) (n:=p.code.n) (k2.trans e0) (by omega);have hc:gJ p k=false:=hc;simp only[hc] at e0;refine Ai (by unfold XT;omega:XT ((k:Int)+1)) ?_;refine⟨k+1,[],[],(by show p.code.n-(k+1)<p.code.n-k;omega),⟨(by show k+1<=p.code.n;omega),by rw[k2,e0]⟩,?_⟩;repeat' first|apply Ai|exact rfl|intro
 have hb:¬(k:Int)<p.code.n:=Xg hb;refine gI (g:=gJ p) (n:=p.code.n) ?_;rw[k2,show p.code.n-k=0 by omega];show k=p.code.n;omega
def Mf:XR cx:=af 90 Tryz.call90 (aH jv YS) _ _ (λ_=>⟨[],[],[2],0⟩) [] (λ_=>rfl) follows Tryz.func90 (by kernel_rfl) DT
theorem Ar{b:Nat->Bool} : ∀(m k:Nat),gT b k=true->(decide (YK b k m<k+m) = !gT b (k+m))
 | 0,k,h=>by rw[show k+0=k from rfl,h];exact Xi (by show ¬k<k;omega)
 | m+1,k,h=>by
  have e0:=jz (g:=b) (k:=k) (n:=k+(m+1)) (by omega);rw[show k+(m+1)-k=m+1 by omega,show k+(m+1)-(k+1)=m by omega] at e0;cases hb:b k with
  | true=>
   simp only[hb] at e0;rw[e0,nB hb (by omega:k<k+(m+1))];exact Xj (by omega)
  | false=>
   simp only[hb] at e0;rw[e0,show k+(m+1)=(k+1)+m by omega];exact Ar m (k+1) (nA h hb)
theorem KM{b:Nat->Bool}{n:Nat} : decide (0<=YO b n) = !gT b n:=by
 have h:=Ar (b:=b) n 0 rfl;rw[B'] at h;unfold YO;rw[<-h];cases hd:decide (YK b 0 n<n) with
 | true=>exact Xj (by simp only;omega)
 | false=>rfl
theorem B1:∀a,aD ((λa=>[∃p:Zx,p.Ok∧a.1=p.code∧a.2=.f (.func 69) [] [.rp p.cells 0]]) a)->aJ (C:=cx) [Mf] [] 0 ak Tryz.f71 ((aH jv YS).enc a) λv H _=>ae ((λa=>.v (.bool (!gT (gJ (Q8 a.2)) a.1.n))) a) H v:=by intro⟨l,x⟩ ⟨p,hp,hl,hx⟩;replace hx:x=.f (.func 69) [] [.rp p.cells 0]:=hx;replace hl:l=p.code:=hl;subst hx hl;refine Ai ⟨(by repeat' first|exact trivial|exact rfl|apply Ai|intro),p,hp,rfl,rfl⟩ ?_;exact KM.symm
def HM:XR cx:=af 71 Tryz.call71 (aH jv YS) _ _ (λ_=>ak) [] (λ_=>rfl) follows Tryz.func71 (by kernel_rfl) B1
end
section
open Go.Conc Go.RowKit
variable {a:Act}{YI body:Code}{XN Y1 Yj:Names}{Yl gf n nt:Nat}{PP:Program}{W1 w0:World}
section
variable {P:Program}{co:Bool}{E:Goroutine->World->Prop}{b:Frame}{k:List Item}{cs:List Frame}{W:World}
theorem J8(l:Nat)(args:Array Value):NS P (Instr.yield l args):=by unfold Instr.yield;refine aa (lC l) λr=>?_;exact bq (aa trivial λ_=>trivial) trivial
theorem vK(l:Nat):NS P (Instr.beginRound l):=by unfold Instr.beginRound;refine aa (lC l) λr=>aa (lA _ _) λ_=>?_;split;trivial;exact bn _;exact bn _;exact bn _
theorem zX(l:Nat)(j:Option Code):NS P (Instr.endRound l j):=by unfold Instr.endRound;exact aa (lC l) λr=>aa (lA _ _) λ_=>trivial
def MO(P:Program)(co:Bool)(l:Nat)(args:Array Value)(W:World)(R:Value->World->Prop):Prop:=
 ∀W1,Rv W W1->∃fn tmps YI body,(Instr.yield l args).run P W1=.ok (.round l fn tmps YI body) W1∧kl P co l fn tmps YI body W1 R
def rfr(f:FuncId)(l:Nat):Frame:={ (default:Frame) with fn:=f,kind:=.normal,roundOf:=some l}
theorem Jy{l:Nat}{fn:FuncId}{tmps:Array Value}{R:Value->World->Prop}{Mid:Act->World->Prop}(hA:wpR P co YI (λe a W=>e=.normal∧Mid a W) ⟨tmps,[]⟩ W)(hM:∀a W,Mid a W->∀W1,Rv W W1->∃W2,(Instr.beginRound l).run P W1=.ok () W2∧wpR P co body (λe _ W3=>e=.normal∧∀W4,Rv W3 W4->∃v W5,(Instr.endRound l none).run P W4=.ok v W5∧R v W5) a W2):kl P co l fn tmps YI body W R:=by
 intro E hE c cs hc;have e0:Frame.round l fn tmps YI body .normal=(rfr fn l).atR ⟨tmps,[]⟩ [.code YI,.beginRound,.code body]:=rfl;rw[e0];have hk:(rfr fn l).kind≠.early:=by simp[rfr]
 refine hA E hE (rfr fn l) [.beginRound,.code body] (c::cs) hk λe a' W' ⟨he,hm⟩=>?_;subst he;refine⟨trivial,?_⟩;show E (G ((rfr fn l).atR a' [.beginRound,.code body]) (c::cs)) W';refine hE.step rfl λW1 r1=>?_;obtain⟨W2,h1,h2⟩:=hM _ _ hm W1 r1;refine⟨G ((rfr fn l).atR a' [.code body]) (c::cs),W2,λmain S R' w hv=>?_,h2 E hE (rfr fn l) [] (c::cs) hk λe a3 W3 ⟨he,h3⟩=>?_⟩
 ·obtain⟨sm,hsm⟩:∃sm:Sem Next,sm=(do Instr.beginRound l;pure Next.skip):=⟨_,rfl⟩
  have hns:NS P sm:=(by rw[hsm];exact aa (vK l) λ_=>trivial);have XV:sm.run P W1=.ok .skip W2:=(by rw[hsm];simp[Xz,h1,Result.andThen]);obtain⟨u',k1,k2,kk,k3⟩:=ck #[] hns hv XV;refine⟨u',seen P fn (sm.events P w #[]),?_,k2,kk,λe he=>mw (P:=P) k3 he⟩;have Ya:stepG P main (G ((rfr fn l).atR a' [.beginRound,.code body]) (c::cs)) w=stepG.apply P true ((rfr fn l).atR a' [.beginRound,.code body]) (c::cs) none sm w:=(by rw[hsm];rfl);rw[Ya];simp[G,stepG.apply,Frame.atR,rfr,k1,GStep.after,Frame.finish]
 subst he;refine⟨trivial,?_⟩;show E (G ((rfr fn l).atR a3 []) (c::cs)) W3;refine hE.step rfl λW4 r4=>?_;obtain⟨v,W5,h5,h6⟩:=h3 W4 r4;refine⟨G (c.finish v) cs,W5,λmain S R' w hv=>?_,hc v W5 h6⟩;obtain⟨u',k1,k2,kk,k3⟩:=ck #[] (zX l none) hv h5;refine⟨u',seen P fn ((Instr.endRound l none).events P w #[]),?_,k2,kk,λe he=>mw (P:=P) k3 he⟩;simp[G,stepG,stepG.exec,Frame.atR,rfr,k1,GStep.after,doReturn]
def oY(fn:FuncId)(tmps:Array Value)(ps:Array Tmp)(YI body:Code)(D:Nat)(s:LoopState):Loop:={state:=s,pending:=none,fn,tmps,params:=ps,assign:=YI,body,defers:=D}
theorem PK(hE:Closed P co E)(hk:b.kind≠.early)(YL:b.roundOf=none){g:Operand}{ps:Array Tmp}{lb:Array Value}(hg:a.eval g=.func (.func gf) #[] lb)(eg:∀args w,(callFunc gf args).run P w=.ok (.enter gf args) w)(ns:∀args,NS P (callFunc gf args)){X:Nat->Nat->World->World->Prop}(hit:∀D l W2,Gr W W2->W.heap.size<=D->D<l->l<W2.heap.size->W2.heap[D]? = some (.deferred (some []))->W2.heap[l]? = some (.loop (oY b.fn a.tmps ps YI body D .ready))->bj P co gf (#[.func (.yield l) #[] #[]]++lb) W2 λe W'=>(∃v,e=.returned v)∧W'.heap[D]? = W2.heap[D]?∧W'.heap[l]? = W2.heap[l]?∧X D l W2 W')(hK:∀D l W2 W3 W4 o,Gr W W2->W.heap.size<=D->D<l->l<W2.heap.size->X D l W2 W3->Rv W3 W4->W4.heap[D]? = some (.deferred (some []))->W4.heap[l]? = some (.loop o)->E (G (b.at ⟨a.tmps,{target:=.collected D,args:=#[]}::a.defers⟩ k) cs) (W4.putObj l (.loop {o with state:=.exhausted}))) :
  E (G (b.at a (.code (.rangeFunc g ps YI body)::k)) cs) W:=by
 refine hE.step rfl λW1 r1=>?_;obtain⟨rec,Y3⟩:∃rec:LoopState->Loop,rec=λs=>{state:=s,pending:=none,fn:=b.fn,tmps:=a.tmps,params:=ps,assign:=YI,body,defers:=W1.heap.size}:=⟨_,rfl⟩
 obtain⟨W2,hW2⟩:∃W2,(W1.alloc (.deferred (some []))).alloc (.loop (rec .ready))=W2:=⟨_,rfl⟩
 have hg12:Gr W1 W2:=by rw[<-hW2];exact((Gr.refl W1).alloc _).alloc _
 have hL2:W2.heap[W1.heap.size+1]? = some (.loop (rec .ready)):=by rw[<-hW2];have:=World.alloc_heap_new (W1.alloc (.deferred (some []))) (.loop (rec .ready));rwa [World.size_alloc] at this
 have hD2:W2.heap[W1.heap.size]? = some (.deferred (some [])):=by rw[<-hW2];exact(Below.heap_alloc _ _ _ (by simp)).trans (World.alloc_heap_new W1 _)
 have X0:W1.heap.size+1<W2.heap.size:=(E'.1 hL2).1;have e1:(Instr.enterLoop b.fn a.tmps ps YI body none).run P W1=.ok (W1.heap.size+1,[{target:=.collected W1.heap.size,args:=#[]}]) W2:=by rw[<-hW2,Y3];exact run_enterLoop_outer _ _ _ _ _
 have hs1:=r1.size;have g02:Gr W W2:=(db r1).trans hg12;let a':Act:=⟨a.tmps,{target:=.collected W1.heap.size,args:=#[]}::a.defers⟩
 refine⟨G (Frame.enter P gf (#[.func (.yield (W1.heap.size+1)) #[] #[]]++lb) .normal) (b.at a' (.inRangeFunc (W1.heap.size+1)::k)::cs),W2,λmain S R w hv=>?_,?_⟩;obtain⟨u,k1,k2,kk,k3⟩:=ck #[] (pa _ _ _ _ _) hv e1;obtain⟨u2,k4,k5,kk2,k6⟩:=ck #[] (ns (#[.func (.yield (W1.heap.size+1)) #[] #[]]++lb)) k2 (eg _ W2);have ZH:(b.kind==CallKind.early)=false:=(by simpa using hk);refine⟨u2,seen P b.fn ((Instr.enterLoop b.fn a.tmps ps YI body none).events P w #[])++seen P b.fn ((callFunc gf (#[.func (.yield (W1.heap.size+1)) #[] #[]]++lb)).events P u #[]),?_,k5,kk.trans kk2,λe he=>?_⟩;have hres:∀(f:Frame),f.tmps=a.tmps->(do let d <-resolve f.eval {callee:=.value g,args:=#[.const (.func (.yield (W1.heap.size+1)) #[] #[])],argTypes:=#[]} 0;invoke d.target d.args)=callFunc gf (#[.func (.yield (W1.heap.size+1)) #[] #[]]++lb):=λf hf=>(by have Z1:f.eval g=.func (.func gf) #[] lb:=(by rw[<-hg];cases g<;>simp[Frame.eval,Act.eval,hf]);have hc:∀v,f.eval (.const v)=v:=λ_=>rfl;simp only[resolve,Z1,Deferred.ofValue,List.map_toArray,List.map_cons,List.map_nil,hc];simp[invoke]);have happ:∀(fr:Frame) (s:Sem Next),fr.fn=b.fn->fr.kind=b.kind->fr.todo=.inRangeFunc (W1.heap.size+1)::k->s=callFunc gf (#[.func (.yield (W1.heap.size+1)) #[] #[]]++lb)->stepG.apply P true fr cs none s u=.go {frame:=Frame.enter P gf (#[.func (.yield (W1.heap.size+1)) #[] #[]]++lb) .normal,callers:=fr::cs,status:=.running,dying:=none} u2 (seen P b.fn ((callFunc gf (#[.func (.yield (W1.heap.size+1)) #[] #[]]++lb)).events P u #[])):=λfr s f1 f2 f3 f4=>(by subst f4;simp[stepG.apply,k4,f1,f2,f3,ZH,GStep.after]);simp only[G,stepG,stepG.exec,Frame.at,YL];simp[k1];have hx:=happ {fn:=b.fn,tmps:=a.tmps,todo:=.inRangeFunc (W1.heap.size+1)::k,defers:={target:=.collected W1.heap.size,args:=#[]}::a.defers,mode:=.run,kind:=b.kind} _ rfl rfl rfl (hres {fn:=b.fn,tmps:=a.tmps,todo:=.inRangeFunc (W1.heap.size+1)::k,defers:={target:=.collected W1.heap.size,args:=#[]}::a.defers,mode:=.run,kind:=b.kind} rfl);refine(O' (GStep.after _) hx).trans ?_;simp[GStep.after,a'];rcases Array.mem_append.1 he with he|he;exact Lx (mw (P:=P) k3 he) kk2.size;exact mw (P:=P) k6 he;refine hit W1.heap.size (W1.heap.size+1) W2 g02 hs1 (by omega) X0 hD2 (by rw[hL2,Y3];rfl) E hE _ λe W3 fr hR hfn hl=>?_;obtain⟨⟨v,rfl⟩,hD,hL,hX⟩:=hR;obtain⟨l1,l2,l3,fn,l4,l5⟩:=hl;have hL3:=hL.trans hL2;have hD3:=hD.trans hD2;refine hE.step rfl λW4 r4=>⟨G (b.at a' (.endRangeFunc (W1.heap.size+1)::k)) cs,W4,λmain S R w hv=>?_,?_⟩
 have e1:=pd r4 hv (dz fn fr.tmps) l5;obtain⟨u,k1,k2,kk,k3⟩:=ck #[] (dz fn fr.tmps).ns hv e1;refine⟨u,seen P fr.fn ((results fn fr.tmps).events P w #[]),?_,k2,kk,λe he=>mw (P:=P) k3 he⟩;obtain⟨ffn,ftmps,ftodo,fdefers,fmode,fkind,fround⟩:=fr;simp only at l1 l2 l3 l4 k1;subst l1 l2 l3;simp[G,stepG,unwind,doReturn,l4,k1,GStep.after,Frame.finish,Frame.at];refine hE.step rfl λW5 r5=>⟨G (b.at a' k) cs,W5.putObj (W1.heap.size+1) (.loop {rec .ready with state:=.exhausted}),λmain S R w hv=>?_,?_⟩
 ·have hL5:=(r5.heap _ _ (r4.heap _ _ hL3))
  have e5:=run_endLoop (P:=P) hL5 (by rw[Y3];simp);have hp:(rec .ready).pending=none:=(by rw[Y3]);obtain⟨u,k1,k2,kk,k3⟩:=ck #[] (tQ (W1.heap.size+1)) hv e5;refine⟨u,seen P b.fn ((Instr.endLoop (W1.heap.size+1)).events P w #[]),?_,k2,kk,λe he=>mw (P:=P) k3 he⟩;simp[G,stepG,stepG.exec,Frame.at,k1,hp,GStep.after,a']
 exact hK _ _ W2 W3 W5 _ g02 hs1 (by omega) X0 hX (r4.trans r5) (r5.heap _ _ (r4.heap _ _ hD3)) (r5.heap _ _ (r4.heap _ _ hL3))
end
section
variable {C:Cx PP}{ρ:Names}{W W':World}{r nm:Nat}
theorem HB.kP(h:HB C ρ W){Z:Nat->Nat->Value->Prop}(hZ:∀b i c,Z b i c->W.cell? ⟨b,i,none⟩=some c∧c.oneCell'=true):HB C (ρ.kP Z) W:=
 ⟨h.own,h.low,λb i c hz=>hz.elim (h.zok b i c) (hZ b i c),h.grd⟩
theorem cS.kP{sb:SB}(h:cS ρ W n sb){Z:Nat->Nat->Value->Prop}(hZ:∀b i c,bM ρ n b->¬Z b i c):cS (ρ.kP Z) W n sb:=by
 cases sb with
 | gone=>trivial
 | lay cs ty=>obtain⟨b,vs,h1,h2,h3,h4,h5⟩:=h;exact⟨b,vs,h1,aK Names.bz _ _ h2,h3,h4,λi c hz=>hz.elim (h5 i c) (hZ b i c (.inl h1))⟩
 | lst e sz N f ty=>
  obtain⟨l,h1,h2,h3,h4,h5⟩:=h;exact⟨l,h1,h2,h3,h4,λhc=>let ⟨b,u,k1,k2,k3,k4,k5,k6⟩:=h5 hc;⟨b,u,k1,k2,k3,k4,λi c hz=>hz.elim (k5 i c) (hZ b i c (.inr (.inl ⟨e,l,0,h1,h2,hc,k1⟩))),λi hi=>let ⟨us,q1,q2⟩:=k6 i hi;⟨us,aK (Names.le.zo Names.bz) _ _ q1,q2⟩⟩⟩
 | mp k ag has g=>obtain⟨b,es,cl,h1,h2,h3,h4⟩:=h;exact⟨b,es,cl,h1,h2,h3,λx hx=>let ⟨m,q1,q2,u,q3,q4⟩:=h4.keys x hx;⟨m,q1,q2,u,aK (Names.le.zo Names.bz) _ _ q3,q4⟩,h4.yes⟩
 | nst e sz N f p Yf g tk ty last=>exact nW h hZ
def Names.own(Yj ρ:Names):Names:=⟨Yj.n,Yj.v,Yj.k,ρ.z,[],λb=>∃n,bM ρ n b⟩
theorem Mem.start(h:Mem C W1 Yj.YE nm ρ W):Mem C W (Yj.own ρ) nm ρ W:=
 ⟨h.hb,h.dom,h.domv,h.domk,⟨h.le.n,h.le.v,h.le.k,λ_ _ _ h=>h⟩,λn _ ho=>.inl (.inr ⟨n,ho⟩),λ_ _ _ hz=>.inl hz,.refl _ _⟩
theorem Mem.via(h:Mem C W1 Yj.YE nm ρ W)(k:Mem C W (Yj.own ρ) Yl Y1 W'):Mem C W1 Yj.YE Yl Y1 W':=by
 have hs:=h.keep.size;have Zg:∀b,jb (Yj.own ρ) b->jb Yj.YE b∨W1.heap.size<=b:=λb hm=>by
  rcases hm with ⟨n,hn⟩|⟨n,hn⟩
  exact .inl (.inl ⟨n,hn⟩);exact h.old n b hn
 refine⟨k.hb,k.dom,k.domv,k.domk,⟨k.le.n,k.le.v,k.le.k,λb i c x=>k.le.z b i c (h.le.z b i c x)⟩,λn b hn=>?_,λb i c hz=>?_,k.keep.os.trans h.keep.os,k.keep.tape.trans h.keep.tape,k.keep.output.trans h.keep.output,Nat.le_trans hs k.keep.size,λb hb hn=>?_⟩;rcases k.old n b hn with h1|h1;exact Zg b h1;exact .inr (by omega);rcases k.zold b i c hz with h1|h1|h1;exact h.zold b i c h1;exact .inr (.inl (by omega));rcases Zg b h1 with h2|h2;exact .inr (.inr h2);exact .inr (.inl h2);exact(k.keep.block b (by omega) λhm=>(Zg b hm).elim hn λh=>by omega).trans (h.keep.block b hb hn)
theorem Mem.yb{W1:World}{b:Nat}(k:Mem C W (Yj.own ρ) Yl Y1 W')(h1:∀n,¬bM Yj n b)(h2:∀n,¬bM ρ n b)(hb:b<W.heap.size):(∀n,¬bM Y1 n b)∧W'.heap[b]? = W.heap[b]?:=by
 have hm:¬jb (Yj.own ρ) b:=λhm=>by
  rcases hm with ⟨n,hn⟩|⟨n,hn⟩
  exact h1 n hn;exact h2 n hn
 refine⟨λn ho=>?_,k.keep.block b hb hm⟩;rcases k.old n b ho with h|h;exact hm h;omega
end
def T9(C:Cx PP)(gf:Nat)(cap:List SV)(n:Nat)(f:Nat->List SV):Prop:=
 ∀(l:Nat) (J:(Nat->Nat->Value->Prop)->Nat->World->Prop) (z:Nat->Nat->Value->Prop) (W:World) (vs:List Value),au (aI z) cap vs->J z 0 W->
  (∀z k W,J z k W->C.ZQ W∧∀b i c,z b i c->W.cell? ⟨b,i,none⟩=some c∧c.oneCell'=true)->
  (∀(z z':Nat->Nat->Value->Prop) k W W',J z k W->Gr W W'->(∀b i c,z' b i c->(z b i c∨W.heap.size<=b)∧W'.cell? ⟨b,i,none⟩=some c∧c.oneCell'=true)->J (λb i c=>z b i c∨z' b i c) k W')->
  (∀z k W us,J z k W->k<n->au (aI z) (f k) us->MO C.P C.co l us.toArray W λv W'=>v=.bool true∧J z (k+1) W')->
  bj C.P C.co gf (#[.func (.yield l) #[] #[]]++vs.toArray) W λe W'=>(∃v,e=.returned v)∧∃z,J z n W'
structure vu where
 α:Type
 P:α->Prop
 idx:α->Nat
 H:α->aU
 nm:α->Nat
def vu.J(c:vu)(a:c.α):St:=⟨[],c.H a,c.nm a,0,[],[]⟩
def vu.at_(c:vu)(nm0:Nat)(k:Nat)(st:St):Prop:=∃(a:c.α) (σ:List (Nat×Nat)) (t:List Tr),c.idx a=k∧c.P a∧Iq nm0 σ (c.J a) (trs nm0 t st)
section
variable {C:Cx PP}{Γ:List (XR C)}{I:Inl}{inls:List Nat}
def RInv(C:Cx PP)(c:vu)(Yj:Names)(W1:World)(lr D:Nat)(o:Obj)(z:Nat->Nat->Value->Prop)(k:Nat)(W:World):Prop:=
 ∃a ρ,c.idx a=k∧c.P a∧(∀b i v,z b i v->ρ.z b i v)∧Mem C W1 Yj.YE (c.nm a) ρ W∧(∀n sb,look (c.H a) n=some sb->cS ρ W n sb)∧(∀n,¬bM ρ n lr)∧(∀n,¬bM ρ n D)∧W.heap[lr]? = some o∧W.heap[D]? = some (.deferred (some []))
theorem vu.at_.rp{c:vu}{nm0 k:Nat}{st:St}{XN ρ:Names}{w0:World}{a:Act}{W:World}(X5:∀n b,XN.n n=some b->n<nm0)(XP:∀e l,XN.v e=some l->e<nm0∧l.o<nm0)(XQ:∀m i l,XN.k m i=some l->m<nm0)(h:c.at_ nm0 k st)(hr:Rp C nt w0 XN st ρ a W) :
  ∃b XM,c.idx b=k∧c.P b∧Rp C nt w0 XN (c.J b) XM a W:=by
 obtain⟨b,σ,t,hk,hp,hle⟩:=h;obtain⟨XM,YJ⟩:=xv (t:=t) X5 XP XQ hr;exact⟨b,_,hk,hp,hle.rp X5 XP XQ YJ⟩
theorem RInv.gr{c:vu}{Yj:Names}{W1 W W':World}{lr D:Nat}{o:Obj}{z z':Nat->Nat->Value->Prop}{k:Nat}(hi:RInv C c Yj W1 lr D o z k W)(gr:Gr W W')(Y4:∀b i c,z' b i c->(z b i c∨W.heap.size<=b)∧W'.cell? ⟨b,i,none⟩=some c∧c.oneCell'=true) :
  RInv C c Yj W1 lr D o (λb i c=>z b i c∨z' b i c) k W':=by
 obtain⟨b,ρ,h1,h2,h3,h4,h5,h6,h7,h8,h9⟩:=hi;refine⟨b,ρ.kP (λb i v=>z' b i v∧W.heap.size<=b),h1,h2,λb i v hz=>?_,⟨(h4.hb.gr gr).kP λb i v hz=>(Y4 b i v hz.1).2,h4.dom,h4.domv,h4.domk,h4.le.trans Names.bz,h4.old,λb i v hz=>?_,h4.keep.gr gr⟩,λm sb hm=>?_,h6,h7,?_,?_⟩;rcases hz with hz|hz;exact .inl (h3 b i v hz);rcases (Y4 b i v hz).1 with h|h;exact .inl (h3 b i v h);exact .inr ⟨hz,h⟩;rcases hz with hz|hz;exact h4.zold b i v hz;have:=h4.keep.size;exact .inr (.inl (by omega))
 ·have X':YH C (c.H b) ρ W:=⟨h4.hb,h5⟩
  exact((X'.gr gr).blk m sb hm).kP λb' i v ho hz=>by have:=(h4.hb.low m b' ho).2;omega
 exact(Below.block gr _ (E'.1 h8).1).trans h8;exact(Below.block gr _ (E'.1 h9).1).trans h9
def jk(rg:Nat):List Nat->List SV->List (Nat×Slot)
 | p::ps,v::vs=>(p,⟨rg,0,[],v⟩)::jk rg ps vs
 | _,_=>[]
def vC:List Nat->List Value->Array Value->Array Value
 | p::ps,u::us,t=>vC ps us (t.setIfInBounds p u)
 | _,_,t=>t
theorem we:∀(ps:List Nat) (us:List Value) (t:Array Value),(vC ps us t).size=t.size
 | [],_,_=>rfl
 | _::_,[],_=>rfl
 | p::ps,u::us,t=>by rw[vC,we ps us];simp
theorem xC{t:Nat} : ∀(ps:List Nat) (us:List Value) (ts:Array Value),t ∉ ps->(vC ps us ts)[t]? = ts[t]?
 | [],_,_,_=>rfl
 | _::_,[],_,_=>rfl
 | p::ps,u::us,ts,h=>by rw[vC,xC ps us _ λe=>h (Xm _ e),M' (λe=>h (by rw[<-e];exact J' ..))]
theorem GM:∀(ps:List Nat) (us:List Value) (ts:Array Value),ps.length=us.length->(ps.toArray.zip us.toArray).foldl (λtmps (x:Tmp×Value)=>tmps.setIfInBounds x.1 x.2) ts=vC ps us ts:=by
 intro ps us ts h;have key:∀(ps:List Nat) (us:List Value) (ts:Array Value),(ps.zip us).foldl (λtmps (x:Tmp×Value)=>tmps.setIfInBounds x.1 x.2) ts=vC ps us ts:=by
  intro ps
  induction ps with
  | nil=>intro us ts;rfl
  | cons p ps ih=>
   intro us ts;cases us with
   | nil=>rfl
   | cons u us=>exact ih us _
 rw[<-key];simp
theorem vX{ρ:Names}{rg:Nat}{sl:List (Nat×Slot)}{t:Nat}{s:Slot} : ∀(ps:List Nat) (vs:List SV) (us:List Value) (ts:Array Value),ps.Nodup->ps.length=vs.length->(∀p∈ps,p<ts.size)->au ρ vs us->look (jk rg ps vs++sl) t=some s->
  (t∈ps∧s.rg=rg∧∃x,den ρ s.v x∧(vC ps us ts)[t]? = some x)∨(t ∉ ps∧look sl t=some s)
 | [],_,_,_,_,_,_,_,h=>.inr ⟨List.not_mem_nil,h⟩
 | p::ps,[],_,_,_,hl,_,_,_=>by simp at hl
 | p::ps,v::vs,us,ts,hn,hl,X0,hd,h=>by
  obtain⟨u,us',rfl,Zk,ZN⟩:=hd;obtain⟨hn1,hn2⟩:=List.nodup_cons.1 hn;have h:look ((p,⟨rg,0,[],v⟩)::(jk rg ps vs++sl)) t=some s:=h;by_cases e:p=t;subst e;rw[ai] at h;obtain rfl:=Oi h;refine .inl ⟨J' ..,rfl,u,Zk,?_⟩;rw[vC,xC ps us' _ hn1];have:=X0 p (J' ..);simp[this];rw[ah _ _ e] at h;rcases vX ps vs us' (ts.setIfInBounds p u) hn2 (by simpa using hl) (λq hq=>by simpa using X0 q (Xm _ hq)) ZN h with ⟨h1,h2,h3⟩|⟨h1,h2⟩
  exact .inl ⟨Xm _ h1,h2,h3⟩;exact .inr ⟨λhm=>by exact(Xq.1 hm).elim (λq=>e q.symm) h1,h2⟩
theorem xl{nm0:Nat}{h:How}{E:Goroutine->World->Prop}{b:Frame}{cs:List Frame}{k:List Item}(hE:Closed C.P C.co E)(hm:C.P.follows .mixedOrders=true)(hI:eT C I)(hb:b.kind≠.early)(YL:b.roundOf=none){g:Operand}{ps:List Nat}{cap:List SV}{f:Nat->List SV}{c:vu}{st:St}{Ds:List Nat}(A:AtR C nt w0 XN nm0 Ds st Yj a W1)(hg:rl st.sl g=some (.f (.func gf) [] cap))(hpu:dB cap=true)(eg:∀args w,(callFunc gf args).run C.P w=.ok (.enter gf args) w)(ens:∀args,NS C.P (callFunc gf args))(hit:T9 C gf cap n f)(hps:ps.Nodup)(hp:∀p∈ps,p<nt)(hpl:∀k,ps.length=(f k).length)(hBa:dL h.fl YI=true)(hBb:dL h.fl body=true)(h0:c.at_ st.nm 0 st)(hround:∀b,c.P b->c.idx b<n->ev Γ nt st.nm I inls h YI ⟨jk st.rg ps (f (c.idx b))++st.sl,c.H b,c.nm b,st.rg,[],[]⟩ λe st2=>match e with
   | .normal=>ev Γ nt st.nm I inls h body st2 λe st3=>match e with
    | .normal=>c.at_ st.nm (c.idx b+1) st3
    | _=>False
   | _=>False)(hK:∀x D XM a' W',c.P x->c.idx x=n->AtR C nt w0 XN (c.nm x) (D::Ds) ⟨st.sl,c.H x,c.nm x,st.rg,[],[]⟩ XM a' W'->E (G (b.at a' k) cs) W'):E (G (b.at a (.code (.rangeFunc g ps.toArray YI body)::k)) cs) W1:=by
 obtain⟨X8,hdf,hmk⟩:=A.all;obtain⟨wa,ρa,ma,mka,hr⟩:=A.ex;obtain⟨u,lb,hu,Ym,hga⟩:=gF hr hg;obtain rfl:=bX hu;have X5:∀n b,Yj.n n=some b->n<st.nm:=X8.dom;have XP:∀e l,Yj.v e=some l->e<st.nm∧l.o<st.nm:=X8.domv;have XQ:∀m i l,Yj.k m i=some l->m<st.nm:=X8.domk;have hcapz:au (aI Yj.z) cap lb:=cJ _ _ hpu Ym;have hno1:∀b,W1.heap.size<=b->∀n,¬bM Yj n b:=λb hb n ho=>by have:=(X8.hb.low n b ho).2;omega
 have hself:Mem C W1 Yj.YE st.nm Yj W1:=Mem.refl X8.hb X5 XP XQ;refine PK (X:=λD l _ W'=>∃z,RInv C c Yj W1 l D (.loop (oY b.fn a.tmps ps.toArray YI body D .ready)) z n W') hE hb YL hga eg ens (λD l W2 g2 hD hDl hl hD2 hL2=>?_) λD l W2 W3 W4 o g2 hD hDl hl hX r4 hD4 hl4=>?_
 ·-- the walk of the function
  have Zr:∀{ρb XM:Names} {Wb W':World} {X4:St} {a':Act} {k:Nat},Rp C nt Wb (Yj.own ρb) X4 XM a' W'->c.at_ st.nm k X4->l<Wb.heap.size->(∀n,¬bM ρb n l)->(∀n,¬bM ρb n D)->
    ∃b Y1,c.idx b=k∧c.P b∧Mem C Wb (Yj.own ρb) (c.nm b) Y1 W'∧(∀n sb,look (c.H b) n=some sb->cS Y1 W' n sb)∧(∀n,¬bM Y1 n l)∧(∀n,¬bM Y1 n D)∧W'.heap[l]? = Wb.heap[l]?∧W'.heap[D]? = Wb.heap[D]?:=by
   intro ρb XM Wb W' X4 a' k YJ hat Y8 hn1 hn2;obtain⟨b,Y1,h1,h2,h3⟩:=vu.at_.rp (XN:=Yj.own ρb) X5 XP XQ hat YJ;obtain⟨k1,k2⟩:=h3.base.mem.yb (W1:=W1) (hno1 _ (by omega)) hn1 Y8;obtain⟨k3,k4⟩:=h3.base.mem.yb (W1:=W1) (hno1 _ (by omega)) hn2 (by omega);exact⟨b,Y1,h1,h2,h3.base.mem,h3.base.blk,k1,k3,k2,k4⟩
  have hin:Mem C W1 Yj.YE st.nm Yj W2:=hself.gr g2;have hstart:RInv C c Yj W1 l D (.loop (oY b.fn a.tmps ps.toArray YI body D .ready)) Yj.z 0 W2:=by
   have hrp:Rp C nt W2 (Yj.own Yj) st Yj {tmps:=a.tmps,defers:=[]} W2:=⟨⟨hin.start,λn sb hn=>(hr.base.X'.gr g2).blk n sb hn,hr.base.sz,rfl⟩,hr.rgs,hr.cw⟩
   obtain⟨b,Y1,h1,h2,h3,h4,h5,h6,h7,h8⟩:=Zr hrp h0 hl (hno1 _ (by omega)) (hno1 _ (by omega));exact⟨b,Y1,h1,h2,h3.le.z,hin.via h3,h4,h5,h6,h7.trans hL2,h8.trans hD2⟩
  refine bj.mono (hit l (RInv C c Yj W1 l D (.loop (oY b.fn a.tmps ps.toArray YI body D .ready))) Yj.z W2 lb hcapz hstart ?_ ?_ ?_) ?_;rintro z k W ⟨b,ρ,h1,h2,h3,h4,-⟩;exact⟨h4.hb.grd,λb i v hz=>h4.hb.zok b i v (h3 b i v hz)⟩;intro z z' k W W' hi gr Y4;exact hi.gr gr Y4
  ·-- a round
   intro z k W us Z0 hkn hu W5 r5;obtain⟨x,ρ,h1,h2,h3,h4,h5,h6,h7,h8,h9⟩:RInv C c Yj W1 l D (.loop (oY b.fn a.tmps ps.toArray YI body D .ready)) z k W5:=(by obtain⟨x,ρ,h1,h2,h3,h4,h5,h6,h7,h8,h9⟩:=Z0;have gr:=db r5;exact⟨x,ρ,h1,h2,h3,h4.gr gr,λm sb hm=>(YH.gr ⟨h4.hb,h5⟩ gr).blk m sb hm,h6,h7,r5.heap _ _ h8,r5.heap _ _ h9⟩);have hszW:l<W5.heap.size:=(E'.1 h8).1;have hul:ps.length=us.length:=(hpl k).trans (aB hu).symm;have hy:=run_yield (P:=C.P) (args:=us.toArray) h8 (by show us.toArray.size=ps.toArray.size;simp[hul]);replace hy:=hy.trans (O' (λt=>Result.ok (Next.round l b.fn t YI body) W5) (GM ps us a.tmps hul));have hu':au ρ (f (c.idx x)) us:=aK (ρ:=aI z) ⟨λ_ _ h=>(by cases h),λ_ _ h=>(by cases h),λ_ _ _ h=>(by cases h),h3⟩ _ _ (by rw[h1];exact hu);have hrp:Rp C nt W5 (Yj.own ρ) ⟨jk st.rg ps (f (c.idx x))++st.sl,c.H x,c.nm x,st.rg,[],[]⟩ ρ {tmps:=vC ps us a.tmps,defers:=[]} W5:=by
    have key:=λt s hs=>vX (ρ:=ρ) (rg:=st.rg) (sl:=st.sl) (t:=t) (s:=s) ps (f (c.idx x)) us a.tmps hps (hpl _) (λq hq=>by rw[hr.base.sz];exact hp q hq) hu' hs;refine⟨⟨h4.start,h5,by rw[<-hr.base.sz];exact we ps us a.tmps,rfl⟩,λt s hs=>?_,λt s hs hg=>?_⟩
    ·rcases key t s hs with ⟨-,e,-⟩|⟨-,h⟩
     rw[e];exact F2 _;exact hr.rgs t s h
    rcases key t s hs with ⟨-,-,h⟩|⟨hn,h⟩
    exact h;obtain⟨y,k1,k2⟩:=hr.cw t s h hg;exact⟨y,bE (ρ:=Yj) (XM:=ρ) ⟨h4.le.n,h4.le.v,h4.le.k,h4.le.z⟩ _ _ k1,(xC ps us a.tmps hn).trans k2⟩
   refine⟨b.fn,_,YI,body,hy,?_⟩;have hA:=dQ (XN:=Yj.own ρ) hI hm X5 XP XQ YI _ _ hBa (hround x h2 (by rw[h1];exact hkn)) ρ _ W5 hrp;refine Jy (Mid:=λa2 W3=>∃st2 Y1,(ev Γ nt st.nm I inls h body st2 λe st3=>match e with|.normal=>c.at_ st.nm (c.idx x+1) st3|_=>False)∧Rp C nt W5 (Yj.own ρ) st2 Y1 a2 W3) (eN hA ?_) ?_
   ·rintro e a2 W3 ⟨y,st2,Y1,rfl,Z1,ZE⟩;cases y with
    | exit i=>exact Z1.elim
    | ret=>exact Z1.elim
    | normal=>exact⟨rfl,st2,Y1,Z1,ZE⟩
   rintro a2 W3' ⟨st2,Y1,Z1,hr2'⟩ W3 r3;have ZE:=hr2'.later r3;obtain⟨o1,b1⟩:=ZE.base.mem.yb (W1:=W1) (b:=l) (hno1 _ (by omega)) h6 hszW;obtain⟨o2,b2⟩:=ZE.base.mem.yb (W1:=W1) (b:=D) (hno1 _ (by omega)) h7 (by omega);have hl3:=b1.trans h8;have hd3:=b2.trans h9;refine⟨_,run_beginRound hl3 rfl,?_⟩;have t34:=mg (.loop {oY b.fn a.tmps ps.toArray YI body D .ready with state:=.busy}) hl3 rfl rfl;have hm4:Mem C W1 Yj.YE st2.nm Y1 (W3.putObj l (.loop {oY b.fn a.tmps ps.toArray YI body D .ready with state:=.busy})):=(h4.via ZE.base.mem).jJ t34 (by omega);have hl4:(W3.putObj l (.loop {oY b.fn a.tmps ps.toArray YI body D .ready with state:=.busy})).heap[l]? = some (.loop {oY b.fn a.tmps ps.toArray YI body D .ready with state:=.busy}):=World.putObj_heap_same (E'.1 hl3).1;have hd4:(W3.putObj l (.loop {oY b.fn a.tmps ps.toArray YI body D .ready with state:=.busy})).heap[D]? = some (.deferred (some [])):=(World.putObj_heap_other (by omega)).trans hd3;have hrp4:Rp C nt (W3.putObj l (.loop {oY b.fn a.tmps ps.toArray YI body D .ready with state:=.busy})) (Yj.own Y1) st2 Y1 a2 (W3.putObj l (.loop {oY b.fn a.tmps ps.toArray YI body D .ready with state:=.busy})):=
    ⟨⟨hm4.start,λm sb hs=>(ZE.base.blk m sb hs).jJ t34,ZE.base.sz,ZE.base.df⟩,ZE.rgs,ZE.cw⟩
   have hB:=dQ (XN:=Yj.own Y1) hI hm X5 XP XQ body _ _ hBb Z1 Y1 _ _ hrp4;refine eN hB ?_;rintro e a5 W6 ⟨y,st3,ρ3,rfl,hev3,hr3⟩;cases y with
   | exit i=>exact hev3.elim
   | ret=>exact hev3.elim
   | normal=>
   refine⟨rfl,λW7 r7=>?_⟩;have hsz4:l<(W3.putObj l (.loop {oY b.fn a.tmps ps.toArray YI body D .ready with state:=.busy})).heap.size:=(E'.1 hl4).1;obtain⟨x',ρ5,q1,q2,q3,q4,q5,q6,q7,q8⟩:=Zr (hr3.later r7) hev3 hsz4 o1 o2;have hl5:=q7.trans hl4;have hd5:=q8.trans hd4;have t56:=mg (.loop { ({oY b.fn a.tmps ps.toArray YI body D .ready with state:=.busy} : Loop) with state:=if (none:Option Code).isNone then .ready else .done,pending:=none}) hl5 rfl rfl;refine⟨_,_,run_endRound (P:=C.P) none hl5,rfl,x',ρ5,q1.trans (by rw[h1]),q2,λb i v hz=>q3.le.z b i v (ZE.base.mem.le.z b i v (h3 b i v hz)),(hm4.via q3).jJ t56 (by omega),λm sb hs=>(q4 m sb hs).jJ t56,q5,q6,?_,?_⟩;rw[World.putObj_heap_same (E'.1 hl5).1];rfl;exact(World.putObj_heap_other (by omega)).trans hd5
  rintro e W' ⟨⟨v,rfl⟩,z,hi⟩;have YT:=hi;obtain⟨x,ρ,h1,h2,h3,h4,h5,h6,h7,h8,h9⟩:=YT;exact⟨⟨v,rfl⟩,h9.trans hD2.symm,h8.trans hL2.symm,z,hi⟩
 ·-- behind it
  obtain⟨z,x,ρ,h1,h2,h3,h4,h5,h6,h7,h8,h9⟩:=hX;have gr4:=db r4;have t:=mg (.loop {o with state:=.exhausted}) hl4 rfl rfl;have hs:=X8.keep.size;have hmW:Mem C W1 Yj.YE (c.nm x) ρ W4:=h4.gr gr4;have hmem3:Mem C w0 XN (c.nm x) ρ W4:=X8.trans hmW;have ZF:=hmem3.jJ t (by omega);have hok4:YH C (c.H x) ρ W4:=YH.gr ⟨h4.hb,h5⟩ gr4;have hno3:∀D',D'<W1.heap.size->(∀n,¬bM Yj n D')->(∀n,¬bM ρ n D')∧W4.heap[D']? = W1.heap[D']?:=λD' hD' hn=>by
   have hm:¬jb Yj.YE D':=λhm=>by
    rcases hm with ⟨n,ho⟩|ho
    exact hn n ho;exact ho
   refine⟨λn ho=>?_,hmW.keep.block D' hD' hm⟩;rcases hmW.old n D' ho with h|h;exact hm h;omega
  refine hK x D ρ _ _ h2 h1 ⟨⟨_,ρ,ZF,λD' hD'=>?_,⟨⟨⟨ZF.hb,ZF.dom,ZF.domv,ZF.domk,⟨λ_ _ h=>h,λ_ _ h=>h,λ_ _ _ h=>h,λ_ _ _ h=>h⟩,λn _ ho=>.inl (.inl ⟨n,ho⟩),λ_ _ _ hz=>.inl hz,.refl _ _⟩,λn sb hn=>(hok4.blk n sb hn).jJ t,hr.base.sz,?_⟩,hr.rgs,λt s hs hg=>?_⟩⟩,?_⟩;rcases Xq.1 hD' with rfl|hD';refine⟨?_,h7,by omega⟩;rw[World.putObj_heap_other (by omega)];exact hD4;obtain⟨q1,q2,q3⟩:=hmk D' hD';have X0:D'<W1.heap.size:=(E'.1 q1).1;obtain⟨q4,q5⟩:=hno3 D' X0 q2;refine⟨?_,q4,q3⟩;rw[World.putObj_heap_other (by omega)];exact q5.trans q1;show {target:=.collected D,args:=#[]}::a.defers=_;rw[hdf];rfl;obtain⟨y,k1,k2⟩:=hr.cw t s hs hg;exact⟨y,bE (ρ:=Yj) ⟨hmW.le.n,hmW.le.v,hmW.le.k,hmW.le.z⟩ _ _ k1,k2⟩;refine List.nodup_cons.2 ⟨λhD'=>?_,A.nd⟩;have:=(E'.1 (hmk D hD').1).1;omega
end
end
end
end Go.Proofs.YtmdpdknpapjchaaGreatDoor
