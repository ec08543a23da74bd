/- A symbolic executor with lists. -/
import Derived.Test.YtmdpdknpapjchaaGreatDoorM13
set_option linter.all false
namespace Go.Proofs.YtmdpdknpapjchaaGreatDoor
open Go.RowKit
variable {a:Act}{after:Array Edge}{ats:Array TypeId}{o:BinOp}{mx:Bool}{r:DR}{vs:List Value}{ρ:Names}{cap d n nm off sz:Nat}{op:OpF}{x:Operand}{P:Program}{u v w:SV}{pos:String}{e t ty yt:TypeId}{y:Value}{W':World}{H:aU}
section
variable {PP:Program}{C:Cx PP}{W:World}{dst:Option Tmp}{guard:Option (Nat×Bool)}
theorem Qs{y:Operand}(h:Qu o u v=some r)(ho:r.Ob)(hx:den ρ u (a.eval x))(hy:den ρ v (a.eval y)) :
  ∃y',Yields r ρ y'∧(execOp a.eval ⟨dst,.binOp o t x y yt,ty,pos,after,guard⟩).run C.P W=.ok (.value y') W:=by
 unfold Qu at h;split at h;rename_i k p k' q hp hq;have e1:=SV.int?_den hp hx;have e2:=SV.int?_den hq hy;split at h;obtain⟨y',k1,k2⟩:=zx (P:=C.P) (w:=W) (t:=t) (ρ:=ρ) (k':=k') h ho;exact⟨y',k1,iK (by rw[e1,e2];exact kH) (by rw[e1,e2];exact k2)⟩;split at h;rename_i hk;obtain rfl:=gC hk;obtain⟨y',k1,k2⟩:=xj (P:=C.P) (w:=W) (t:=t) (ρ:=ρ) h ho;exact⟨y',k1,iK (by rw[e1,e2];exact kH) (by rw[e1,e2];exact k2)⟩;cases h;cases h
theorem Qr{m:Bool}{y:Operand}(h:My m o u v=some r)(ho:r.Ob)(hx:den ρ u (a.eval x))(hy:den ρ v (a.eval y)) :
  ∃y',Yields r ρ y'∧(execOp a.eval ⟨dst,.binOp o t x y yt,ty,pos,after,guard⟩).run C.P W=.ok (.value y') W:=by
 unfold My at h;split at h;exact Qs h ho hx hy;split at h;rename_i k p k' q hp hq;have e1:=SV.int?_den hp hx;have e2:=SV.int?_den hq hy;split at h;obtain⟨y',k1,k2⟩:=zx (P:=C.P) (w:=W) (t:=t) (ρ:=ρ) (k':=k') h ho;exact⟨y',k1,iK (by rw[e1,e2];exact kH) (by rw[e1,e2];exact k2)⟩;split at h;rename_i hk;obtain rfl:=gC hk;obtain⟨y',k1,k2⟩:=Dr (P:=C.P) (w:=W) (t:=t) (ρ:=ρ) h ho;exact⟨y',k1,iK (by rw[e1,e2];exact kH) (by rw[e1,e2];exact k2)⟩;cases h;cases h
theorem Mw{y:Operand}(h:Gb C o t u v=some w)(hx:den ρ u (a.eval x))(hy:den ρ v (a.eval y)) :
  ∃y',den ρ w y'∧(execOp a.eval ⟨dst,.binOp o t x y yt,ty,pos,after,guard⟩).run C.P W=.ok (.value y') W:=by
 unfold Gb at h;split at h;rename_i p q ti hp hq YD;split at h;rename_i hk;obtain rfl:=Oi h;have e1:=SV.bool?_den hp hx;have e2:=SV.bool?_den hq hy;obtain⟨i,d,z,hi,ZI,hs,hz,Y2,ZT,-⟩:=(C.ty YD).ex;have hd:d=.bool:=(by rw[hk] at ZT;cases d<;>first|rfl|simp[aX] at ZT);subst hd;refine⟨_,rfl,iK (by rw[e1,e2];exact ur) ?_⟩;rw[e1,e2];simp only[binOp,Op.equal,Op.maxDepth,Xz,run_equalIn_bool' W 9999 t p q ZI,Xx,Xy];cases h;rename_i p q ti hp hq YD;split at h;rename_i hk;obtain rfl:=Oi h;have e1:=SV.bool?_den hp hx;have e2:=SV.bool?_den hq hy;obtain⟨i,d,z,hi,ZI,hs,hz,Y2,ZT,-⟩:=(C.ty YD).ex;have hd:d=.bool:=(by rw[hk] at ZT;cases d<;>first|rfl|simp[aX] at ZT);subst hd;refine⟨_,rfl,iK (by rw[e1,e2];exact ur) ?_⟩;rw[e1,e2];simp only[binOp,Op.equal,Op.maxDepth,Xz,run_equalIn_bool' W 9999 t p q ZI,Xx,Xy];rfl;cases h;cases h
def valOf(ti:TI)(vs:List Value):Value:=match iM ti.k with|true=>.agg vs.toArray|false=>vs.headD undef
theorem qX{i:TypeInfo}{d:TypeDesc}{ti:TI}(hi:P.info? e=some i)(hd:P.underlying e=some d)(hs:i.size=ti.sz)(hk:aX d ti.k=true)(hl:ti.sz<=(vs.drop off).length)(h1:iM ti.k=false->ti.sz=1) :
  (part e vs.toArray off).run P W=.ok (valOf ti ((vs.drop off).take ti.sz)) W:=by
 cases YV:iM ti.k with
 | true=>
  rw[iQ hi hd (mD hk YV),hs]
  congr 1
  unfold valOf;rw[YV];simp only
  congr 1
  rw[List.length_drop] at hl;apply Array.ext';simp[List.take_drop,Nat.add_comm]
 | false=>
  have Y8:=h1 YV;rw[Y8] at hl ⊢;cases hv:vs.drop off with
  | nil=>rw[hv] at hl;simp at hl
  | cons v r=>
   have hv':vs[off]? = some v:=(by have:=O' (·[0]?) hv;simpa using this);rw[ln (v:=v) hd (im hk YV).1 (im hk YV).2 (by simpa using hv')];unfold valOf;rw[YV];rfl
def Ub(C:Cx PP)(ρ:Names)(W:World)(h:Nat->List SV->List SV->Option Bool)(d:Nat):Prop:=
 ∀t x y c ti p q,h t x y=some c->look C.T t=some ti->au ρ x p->au ρ y q->(iM ti.k=false->x.length=1)∧(Op.equalIn d t (valOf ti p) (valOf ti q)).run C.P W=.ok c W
theorem Fx{h:Nat->List SV->List SV->Option Bool}{xs ys:List SV}{us:List Value}(hx:au ρ xs us)(hy:au ρ ys vs)(hf:Ub C ρ W h d){ft:Nat}{r:List (Nat×Nat)}{c:Bool}(he:AZ C h xs ys ((off,ft)::r)=some c) :
  ∃b p q fi,look C.T ft=some fi∧(part ft us.toArray off).run C.P W=.ok p W∧(part ft vs.toArray off).run C.P W=.ok q W∧(Op.equalIn d ft p q).run C.P W=.ok b W∧((c=b∧r=[])∨∃c',c=(b&&c')∧AZ C h xs ys r=some c'):=by
 simp only[AZ] at he;split at he;cases he;rename_i fi hfi;split at he;rename_i x y hxt hyt;split at he;cases he;rename_i b hb;obtain⟨i,dd,z,hi,ZI,hs,hz,Y2,hk,-⟩:=(C.ty hfi).ex;obtain⟨k1,k2⟩:=jc hxt (bS off hx);obtain⟨k3,k4⟩:=jc hyt (bS off hy);obtain⟨Yw,XV⟩:=hf _ x y b fi _ _ hb hfi k1 k3;have Y8:iM fi.k=false->fi.sz=1:=λha=>(by have:=Yw ha;rw[<-aB k1,List.length_take] at this;omega);refine⟨b,_,_,fi,hfi,qX hi ZI hs hk k2 Y8,qX hi ZI hs hk k4 Y8,XV,?_⟩;split at he;exact .inl ⟨(Oi he).symm,rfl⟩;split at he;rename_i c' hc';exact .inr ⟨c',(Oi he).symm,hc'⟩;cases he;cases he
theorem Fy{h:Nat->List SV->List SV->Option Bool}{d:Nat}{xs ys:List SV}{us vs:List Value}(hx:au ρ xs us)(hy:au ρ ys vs)(hf:Ub C ρ W h d) :
  ∀(fs:List Field) (c:Bool),(∀g∈fs,g.name≠ "_")->AZ C h xs ys (fs.map λg=>(g.offset,g.type))=some c->(Op.eqFields d us.toArray vs.toArray fs).run C.P W=.ok c W
 | [],c,_,h=>by obtain rfl:=Oi h;rfl
 | g::r,c,hn,he=>by
  obtain⟨b,p,q,fi,-,k1,k2,k3,k4⟩:=Fx hx hy hf he;have XW:=hn g J';have Zr:(Op.eqFields d us.toArray vs.toArray (g::r)).run C.P W=if (!b)=true then .ok false W else(Op.eqFields d us.toArray vs.toArray r).run C.P W:=(by simp only[Op.eqFields,ne_eq,XW,not_false_eq_true,if_true,Xz,k1,k2,k3,Xx];cases b<;>rfl);rw[Zr];rcases k4 with ⟨rfl,hr⟩|⟨c',rfl,hc'⟩
  have hr:r=[]:=(by simpa using hr);subst hr;cases c<;>rfl;have ih:=Fy hx hy hf r c' (λg' hg'=>hn g' (Xm _ hg')) hc';cases b;rfl;simpa using ih
theorem uO{h:Nat->List SV->List SV->Option Bool}{d e sz:Nat}{xs ys:List SV}{us vs:List Value}(hx:au ρ xs us)(hy:au ρ ys vs)(hf:Ub C ρ W h d) :
  ∀(n i:Nat) (c:Bool),AZ C h xs ys (BC e sz i n)=some c->(Op.eqItems d e sz us.toArray vs.toArray (List.range' i n)).run C.P W=.ok c W
 | 0,i,c,h=>by obtain rfl:=Oi h;rfl
 | n+1,i,c,he=>by
  simp only[BC] at he;obtain⟨b,p,q,fi,-,k1,k2,k3,k4⟩:=Fx hx hy hf he;have Zr:(Op.eqItems d e sz us.toArray vs.toArray (List.range' i (n+1))).run C.P W=if (!b)=true then .ok false W else(Op.eqItems d e sz us.toArray vs.toArray (List.range' (i+1) n)).run C.P W:=(by simp only[List.range'_succ,Op.eqItems,Xz,k1,k2,k3,Xx];cases b<;>rfl);rw[Zr];rcases k4 with ⟨rfl,hr⟩|⟨c',rfl,hc'⟩
  ·cases n with
   | zero=>cases c<;>rfl
   | succ n=>simp[BC] at hr
  have ih:=uO hx hy hf n (i+1) c' hc';cases b;rfl;simpa using ih
theorem De:∀(k d t:Nat) (xs ys:List SV) (c:Bool) (ti:TI) (us vs:List Value),eqT C k t xs ys=some c->look C.T t=some ti->au ρ xs us->au ρ ys vs->
  (iM ti.k=false->xs.length=1)∧(Op.equalIn (d+k) t (valOf ti us) (valOf ti vs)).run C.P W=.ok c W
 | 0,_,_,_,_,_,_,_,_,h,_,_,_=>by cases h
 | k+1,d,t,xs,ys,c,ti,us,vs,h,YD,hx,hy=>by
  simp only[eqT,YD] at h;obtain⟨i,dd,z,hi,ZI,hs,hz,Y2,hk,-⟩:=(C.ty YD).ex;split at h
  ·rename_i fs hfs;split at h
   ·rename_i heq;refine⟨(λha=>by rw[hfs] at ha;cases ha),?_⟩;have he:=(C.ty YD).eq heq;simp only[PE,ZI,I',Bool.not_eq_true'] at he;rw[hfs] at hk;cases dd with
    | struct fs'=>
     have hk2:(fs'.toList.map λf=>(f.offset,f.type))=fs:=(by simpa[aX] using hk);have hfo:C.P.fieldsOf t=fs':=(by simp[Program.fieldsOf,ZI]);have hv1:valOf ti us=.agg us.toArray:=(by unfold valOf;rw[hfs];rfl);have ZL:valOf ti vs=.agg vs.toArray:=(by unfold valOf;rw[hfs];rfl);rw[hv1,ZL,show d+(k+1)=(d+k)+1 from rfl,run_equalIn_struct W (d+k) t _ _ (by rw[hfo];exact ZI) he.1.1,hfo];refine Fy hx hy (λt' x y c' ti' p q h1 h2 h3 h4=>De k d t' x y c' ti' p q h1 h2 h3 h4) fs'.toList c ?_ (by rw[hk2];exact h);intro g hg;have:=List.all_eq_true.1 he.2 g hg;simpa using this
    | _=>simp[aX] at hk
   cases h
  ·rename_i n e hke;split at h
   ·rename_i ei Yt;refine⟨(λha=>by rw[hke] at ha;cases ha),?_⟩;obtain⟨i2,d2,z2,hi2,hdd2,YP,-⟩:=(C.ty Yt).ex;rw[hke] at hk;cases dd with
    | array n' e'=>
     simp only[aX,I',beq_iff_eq] at hk;obtain⟨rfl,rfl⟩:=hk;have hv1:valOf ti us=.agg us.toArray:=(by unfold valOf;rw[hke];rfl);have ZL:valOf ti vs=.agg vs.toArray:=(by unfold valOf;rw[hke];rfl);have hco:C.P.cellsOf e'=ei.sz:=(by simp[Program.cellsOf,hi2,YP]);rw[hv1,ZL,show d+(k+1)=(d+k)+1 from rfl,run_equalIn_array W (d+k) _ _ ZI hi2,hco,List.range_eq_range'];exact uO hx hy (λt' x y c' ti' p q h1 h2 h3 h4=>De k d t' x y c' ti' p q h1 h2 h3 h4) n' 0 c h
    | _=>simp[aX] at hk
   cases h
  ·rename_i kk ZT;split at h
   ·rename_i x y;split at h
    ·rename_i k1 a k2 b h1 h2;split at h
     ·rename_i hsk;obtain rfl:=gC hsk;obtain rfl:=Oi h;refine⟨λ_=>rfl,?_⟩;obtain⟨u,us',rfl,e1,e2⟩:=aF hx;obtain rfl:=bX e2;obtain⟨v,vs',rfl,e3,e4⟩:=aF hy;obtain rfl:=bX e4;obtain rfl:=SV.int?_den h1 e1;obtain rfl:=SV.int?_den h2 e3;rw[ZT] at hk;cases dd with
      | int k'=>
       have hv:∀w:Value,valOf ti [w]=w:=λw=>(by unfold valOf;rw[ZT];rfl);rw[hv,hv];exact run_equalIn_int W (d+k) t _ _ a b ZI
      | _=>simp[aX] at hk
     cases h
    cases h
   cases h
  ·rename_i ZT;split at h
   ·rename_i x y;split at h
    ·rename_i a b h1 h2;obtain rfl:=Oi h;refine⟨λ_=>rfl,?_⟩;obtain⟨u,us',rfl,e1,e2⟩:=aF hx;obtain rfl:=bX e2;obtain⟨v,vs',rfl,e3,e4⟩:=aF hy;obtain rfl:=bX e4;obtain rfl:=SV.bool?_den h1 e1;obtain rfl:=SV.bool?_den h2 e3;rw[ZT] at hk;cases dd with
     | bool=>
      have hv:∀w:Value,valOf ti [w]=w:=λw=>(by unfold valOf;rw[ZT];rfl);rw[hv,hv];exact run_equalIn_bool' W (d+k) t a b ZI
     | _=>simp[aX] at hk
    cases h
   cases h
  ·rename_i ZT;split at h
   ·rename_i a b;obtain rfl:=Oi h;refine⟨λ_=>rfl,?_⟩;obtain⟨u,us',rfl,rfl,e2⟩:=aF hx;obtain rfl:=bX e2;obtain⟨v,vs',rfl,rfl,e4⟩:=aF hy;obtain rfl:=bX e4;rw[ZT] at hk;cases dd with
    | string=>
     have hv:∀w:Value,valOf ti [w]=w:=λw=>(by unfold valOf;rw[ZT];rfl);rw[hv,hv];exact run_equalIn_string W (d+k) t a b ZI
    | _=>simp[aX] at hk
   cases h
  cases h
theorem QI{y:Operand}(h:MH C o t u v=some w)(hx:den ρ u (a.eval x))(hy:den ρ v (a.eval y)) :
  ∃y',den ρ w y'∧(execOp a.eval ⟨dst,.binOp o t x y yt,ty,pos,after,guard⟩).run C.P W=.ok (.value y') W:=by
 have key:∀{xs ys:List SV} {ti:TI} {c:Bool},look C.T t=some ti->ti.eq=true->iM ti.k=true->eqT C 4 t xs ys=some c->den ρ (.agg xs) (a.eval x)->den ρ (.agg ys) (a.eval y)->
   ∃us vs:Array Value,a.eval x=.agg us∧a.eval y=.agg vs∧(Op.equalIn 10000 t (.agg us) (.agg vs)).run C.P W=.ok c W∧C.P.eqGuardType C.P.depth t=false:=by
  intro xs ys ti c YD heq YV hc hx hy;obtain⟨us,hus,e1⟩:=hx;obtain⟨vs,hvs,e2⟩:=hy;have:=(De (W:=W) 4 9996 t xs ys c ti us vs hc YD hus hvs).2;have hv:∀l:List Value,valOf ti l=.agg l.toArray:=λl=>(by unfold valOf;rw[YV]);rw[hv,hv] at this;have he:=(C.ty YD).eq heq;simp only[PE,I',Bool.not_eq_true'] at he;exact⟨_,_,e1,e2,this,he.1.2⟩
 unfold MH at h;split at h;split at h;rename_i ti YD;split at h;rename_i heq YV;replace YV:=(fR (fR YV).2).2;split at h;rename_i c hc;obtain rfl:=Oi h;obtain⟨us,vs,e1,e2,e3,e4⟩:=key YD heq YV hc hx hy;refine⟨_,rfl,iK (by rw[e1,e2];exact run_eqGuard_agg W _ _ _ _ _ _ e4) ?_⟩;rw[e1,e2,run_eql_struct,e3];rfl;cases h;cases h;cases h;split at h;rename_i ti YD;split at h;rename_i heq YV;replace YV:=(fR (fR YV).2).2;split at h;rename_i c hc;obtain rfl:=Oi h;obtain⟨us,vs,e1,e2,e3,e4⟩:=key YD heq YV hc hx hy;refine⟨_,rfl,iK (by rw[e1,e2];exact run_eqGuard_agg W _ _ _ _ _ _ e4) ?_⟩;rw[e1,e2,run_neq_struct,e3];rfl;cases h;cases h;cases h;cases h
theorem wR{op:BinOp}{y:Operand}{n m:Option Addr} : (eqGuard op t x y (.pointer n) (.pointer m)).run P W=.ok () W:=by simp only[eqGuard];split<;>rfl
theorem qY{p:Option Addr}(ht:P.underlying t=some (.pointer e)):(Op.equalIn (d+1) t (.pointer p) (.pointer none)).run P W=.ok p.isNone W:=by cases p<;>simp[Op.equalIn,run_underlying ht]
theorem wL(h:C2 v=true)(hd:den ρ v y):y=.pointer none:=by unfold C2 at h;split at h;exact hd;cases h
theorem wq{b:Bool}(h:CJ v=some b)(hd:den ρ v y):∃p,y=.pointer p∧p.isNone=b:=by unfold CJ at h;split at h;obtain rfl:=Oi h;exact⟨none,hd,rfl⟩;obtain rfl:=Oi h;obtain⟨b,o,u,e,-⟩:=hd;exact⟨_,e,rfl⟩;obtain rfl:=Oi h;obtain⟨b,-,e⟩:=hd;exact⟨_,e,rfl⟩;obtain rfl:=Oi h;obtain⟨l,b,-,-,-,-,-,e⟩:=hd;exact⟨_,e,rfl⟩;obtain rfl:=Oi h;obtain⟨l,b,-,-,-,-,e⟩:=hd;exact⟨_,e,rfl⟩;cases h
theorem Oj{y:Operand}(h:Ol C o t u v=some w)(hx:den ρ u (a.eval x))(hy:den ρ v (a.eval y)) :
  ∃y',den ρ w y'∧(execOp a.eval ⟨dst,.binOp o t x y yt,ty,pos,after,guard⟩).run C.P W=.ok (.value y') W:=by
 unfold Ol at h;split at h
 ·rename_i b ti hb hn YD;obtain⟨p,e1,e3⟩:=wq hb hx;have e2:=wL hn hy;obtain⟨i,d,z,hi,ZI,hs,hz,Y2,ZT,-⟩:=(C.ty YD).ex;have hd:KO ti.k=true->∃e,d=.pointer e:=by
   intro hk;cases Y7:ti.k<;>rw[Y7] at hk<;>first|cases hk|skip
   rw[Y7] at ZT;cases d<;>first|exact⟨_,rfl⟩|simp[aX] at ZT
  split at h;rename_i hk;obtain rfl:=Oi h;obtain⟨e,rfl⟩:=hd hk;refine⟨_,rfl,iK (by rw[e1,e2];exact wR) ?_⟩;rw[e1,e2,<-e3];simp only[binOp,Op.equal,Op.maxDepth,Xz,qY (W:=W) (d:=9999) ZI,Xx,Xy];rename_i hk;obtain rfl:=Oi h;obtain⟨e,rfl⟩:=hd hk;refine⟨_,rfl,iK (by rw[e1,e2];exact wR) ?_⟩;rw[e1,e2,<-e3];simp only[binOp,Op.equal,Op.maxDepth,Xz,qY (W:=W) (d:=9999) ZI,Xx,Xy];cases h
 cases h
theorem RY{o:UnOp}(h:unD o u=some r)(ho:r.Ob)(hx:den ρ u (a.eval x)) :
  ∃y,Yields r ρ y∧(execOp a.eval ⟨dst,.unOp o t x,ty,pos,after,guard⟩).run C.P W=.ok (.value y) W:=by
 unfold unD at h;split at h;have e:a.eval x=.bool _:=hx;exact⟨_,bp h rfl,AO (by rw[e];rfl)⟩;have e:a.eval x=.bool _:=hx;exact⟨_,bp h rfl,AO (by rw[e];rfl)⟩;split at h;rename_i k n hn;have e:=SV.int?_den hn hx;exact⟨_,(qM h ho).2,AO (by rw[e];simp only[Op.unary,Op.intArith,Xy,Int.zero_sub])⟩;cases h;cases h
theorem LY{src dst':TypeId}(h:FH C src dst' u=some r)(ho:r.Ob)(hx:den ρ u (a.eval x)) :
  ∃y,Yields r ρ y∧(execOp a.eval ⟨dst,.convert src dst' x,ty,pos,after,guard⟩).run C.P W=.ok (.value y) W:=by
 unfold FH at h;split at h
 ·rename_i si ti hsi YD;obtain⟨i1,d1,z1,-,Zk,-⟩:=(C.ty hsi).ex;obtain⟨i2,d2,z2,-,ZN,-,-,-,hk,-⟩:=(C.ty YD).ex;have key:∀(k k':IntKind) (n:Int),ti.k=.int k->a.eval x=.int k' n->(execOp a.eval ⟨dst,.convert src dst' x,ty,pos,after,guard⟩).run C.P W=.ok (.value (.int k (k.wrap n))) W:=by
   intro k k' n hki hxe;rw[hki] at hk;cases d2 with
   | int k2=>
    obtain rfl:k2=k:=Od hk;simp only[execOp,hxe,convert,underlying,Xz,run_program,Xx,Zk,ZN,Xy,Conv.intToInt]
   | _=>simp[aX] at hk
  split at h;rename_i k hki;split at h;rename_i k' n hn;have e:=SV.int?_den hn hx;split at h;obtain⟨h1,h2,h3⟩:=VH h;exact⟨_,⟨h1,h2,by rw[h3];exact rfl⟩,key _ _ _ hki e⟩;exact⟨_,(qM h ho).2,key _ _ _ hki e⟩;cases h;cases h
 cases h
end
section
variable {PP:Program}{C:Cx PP}{Γ:List (XR C)}{W:World}{dst:Option Tmp}{guard:Option (Nat×Bool)}
theorem fW{i:SV}{k:Nat}(h:natLit i=some k)(hd:den ρ i y):∃kk,y=.int kk (k:Int):=by unfold natLit at h;split at h;obtain rfl:=Oi h;exact⟨_,hd⟩;obtain rfl:=Oi h;exact⟨_,hd⟩;cases h
theorem LA(hH:YH C H ρ W){t:Nat}{i:Operand}(h:LB C t u v=some r)(ho:r.Ob)(hx:den ρ u (a.eval x))(hi:den ρ v (a.eval i)) :
  ∃y,Yields r ρ y∧(execOp a.eval ⟨dst,.indexAddr t x i,ty,pos,after,guard⟩).run C.P W=.ok (.value y) W:=by
 unfold LB at h;split at h;rename_i n sz off len cap;split at h;rename_i e ei k Yt hk;split at h;rename_i b1 b2;have b2:=Nb b2;rw[Nat.blt_eq] at b1;obtain⟨inf,z,ht,XX,hs,-⟩:=bV Yt;obtain⟨b,hb,e1⟩:=hx;obtain⟨kk,e2⟩:=fW hk hi;refine⟨_,bp h ?_,jF e1 e2 ⟨by omega,by omega⟩ ht XX⟩;rw[bO,Int.toNat_natCast,hs,b2];exact⟨b,hb,rfl⟩;cases h;cases h;rename_i sz n hh;split at h;rename_i e ei kk k Yt hk;split at h;rename_i b2;have b2:=Nb b2;obtain⟨h0,h1⟩:=ia h ho;obtain⟨inf,z,ht,XX,hs,-⟩:=bV Yt;obtain⟨ad,cap,e1,e3,e4⟩:=hx;obtain⟨b,o,us,rfl,k2,k3,k4⟩:=e4 k.toNat (by omega);have e2:=SV.int?_den hk hi;refine⟨_,cU h ?_,jF e1 e2 ⟨h0,h1⟩ ht XX⟩;rw[bO,hs,b2];exact⟨b,o+k.toNat*sz,us,rfl,k2,k4⟩;cases h;cases h;rename_i m e sz off n;split at h;rename_i et ei kk k Yt hk;split at h;rename_i b2;have b2:=Nb b2;obtain⟨h0,h1⟩:=ia h ho;obtain⟨inf,z,ht,XX,hs,-⟩:=bV Yt;obtain⟨l,p1,po,p2,p3,a',e1,p5⟩:=hx;obtain⟨b,q1,rfl⟩:=p5 (by omega);have e2:=SV.int?_den hk hi;refine⟨_,cU h ?_,jF e1 e2 ⟨h0,h1⟩ ht XX⟩;rw[bO,hs,b2];exact⟨l,b,p1,po,by omega,p3,q1,by rw[Nat.add_zero,Nat.add_mul]⟩;cases h;cases h;rename_i n off;split at h;rename_i len e ei k Yt hk;split at h;rename_i b1;rw[Nat.blt_eq] at b1;obtain⟨inf,d,ht,XX,hs,-⟩:=jU Yt;obtain⟨b,hb,e1⟩:=hx;obtain⟨kk,e2⟩:=fW hk hi;refine⟨_,bp h ?_,iw e1 e2 ⟨by omega,by omega⟩ ht XX⟩;rw[bO,Int.toNat_natCast,hs];exact⟨b,hb,rfl⟩;cases h;cases h;rename_i xs off;split at h;rename_i len e ei k Yt hk;split at h;rename_i b1;rw[Nat.blt_eq] at b1;obtain⟨inf,d,ht,XX,hs,-⟩:=jU Yt;obtain⟨b,o,us,e1,k2,k3⟩:=hx;obtain⟨kk,e2⟩:=fW hk hi;refine⟨_,bp h ?_,iw e1 e2 ⟨by omega,by omega⟩ ht XX⟩;rw[bO,Int.toNat_natCast,hs];exact⟨b,o,us,by rw[Nat.add_assoc],k2,k3⟩;cases h;cases h;rename_i m e sz j off;split at h;rename_i len et ei k Yt hk;split at h;rename_i b1;rw[Nat.blt_eq] at b1;obtain⟨inf,d,ht,XX,hs,-⟩:=jU Yt;obtain⟨l,b,p1,po,p2,p3,p4,e1⟩:=hx;obtain⟨kk,e2⟩:=fW hk hi;refine⟨_,bp h ?_,iw e1 e2 ⟨by omega,by omega⟩ ht XX⟩;rw[bO,Int.toNat_natCast,hs];exact⟨l,b,p1,po,p2,p3,p4,by rw[Nat.add_assoc]⟩;cases h;cases h;rename_i m q sz off n;split at h;rename_i et ei kk k Yt hk;split at h;rename_i b2;have b2:=Nb b2;obtain⟨h0,h1⟩:=ia h ho;obtain⟨inf,z,ht,XX,hs,-⟩:=bV Yt;obtain⟨l,p1,p2,p3,a',e1,p5⟩:=hx;obtain⟨b,q1,rfl⟩:=p5 (by omega);have e2:=SV.int?_den hk hi;refine⟨_,cU h ?_,jF e1 e2 ⟨h0,h1⟩ ht XX⟩;rw[bO,hs,b2];exact⟨l,b,p1,by omega,p3,q1,by rw[Nat.add_zero,Nat.add_mul]⟩;cases h;cases h;rename_i m q sz j off;split at h;rename_i len et ei k Yt hk;split at h;rename_i b1;rw[Nat.blt_eq] at b1;obtain⟨inf,d,ht,XX,hs,-⟩:=jU Yt;obtain⟨l,b,p1,p2,p3,p4,e1⟩:=hx;obtain⟨kk,e2⟩:=fW hk hi;refine⟨_,bp h ?_,iw e1 e2 ⟨by omega,by omega⟩ ht XX⟩;rw[bO,Int.toNat_natCast,hs];exact⟨l,b,p1,p2,p3,p4,by rw[Nat.add_assoc]⟩;cases h;cases h;rename_i b off;split at h;rename_i len et ei k Yt hk;split at h;rename_i b1;rw[Nat.blt_eq] at b1;obtain⟨inf,d,ht,XX,hs,-⟩:=jU Yt;have e1:a.eval x=_:=hx;obtain⟨kk,e2⟩:=fW hk hi;refine⟨_,bp h ?_,iw e1 e2 ⟨by omega,by omega⟩ ht XX⟩;rw[bO,Int.toNat_natCast,hs];rfl;cases h;cases h;cases h
theorem Hl{t:Nat}{i:Operand}(h:um C t u v=some w)(hx:den ρ u (a.eval x))(hi:den ρ v (a.eval i)) :
  ∃y,den ρ w y∧(execOp a.eval ⟨dst,.index t x i,ty,pos,after,guard⟩).run C.P W=.ok (.value y) W:=by
 unfold um at h;split at h
 ·rename_i l len e ei k Yt hk;obtain⟨inf,d,ht,XX,hs,hde,hke⟩:=jU Yt;obtain⟨us,hus,e1⟩:=hx;obtain⟨kk,e2⟩:=fW hk hi;split at h
  ·rename_i b1 YV;rw[Nat.blt_eq] at b1;split at h
   ·rename_i m hm;obtain rfl:=Oi h;obtain⟨k1,k2⟩:=jc hm (bS (k*ei.sz) hus);refine⟨_,⟨_,k1,rfl⟩,uJ e1 e2 b1 ht XX ?_⟩;rw[iQ XX hde (mD hke YV),hs];rw[List.length_drop] at k2
    congr 2
    apply Array.ext';simp[List.take_drop,Nat.add_comm]
   cases h
  rename_i b1 YV;rw[Nat.blt_eq] at b1;obtain⟨y,hy,hdy⟩:=eu hus h;exact⟨y,hdy,uJ e1 e2 b1 ht XX (ln hde (im hke YV).1 (im hke YV).2 (by rw[hs];simpa using hy))⟩;cases h
 cases h
theorem FQ{k:IntKind}{sz c:Nat} : ∀{m:Nat} {l:List SV} {us:List Value} {r:List Int},Ql k sz c m l=some r->au ρ l us->∀j,j<m->us[j*sz+c]? = some (.int k (r.getD j 0))
 | 0,_,_,_,_,_,j,hj=>P' hj (F1 j)
 | m+1,l,us,r,h,hd,j,hj=>by
  unfold Ql at h;split at h;cases h;rename_i x hx;split at h
  ·rename_i k' n r' hn hr;split at h
   ·rename_i hk;obtain rfl:=gC hk;obtain rfl:=Oi h;cases j with
    | zero=>
     obtain⟨y,hy,hdy⟩:=eu hd hx;rw[SV.int?_den hn hdy] at hy;simpa using hy
    | succ j=>
     have:=FQ hr (bS sz hd) j (by omega);rw[List.getElem?_drop] at this;rw[show (j+1)*sz+c=sz+(j*sz+c) by rw[Nat.succ_mul];omega];simpa using this
   cases h
  cases h
theorem Bt{n:Int}{sz m:Nat}{l:List SV}{us:List Value}(hd:au ρ l us)(hn:n.toNat<m):∀{zs:List SV} {c:Nat} {cs:List SV},FP n sz m l c zs=some cs->∃vs,au ρ cs vs∧vs.length=zs.length∧∀q,q<zs.length->us[n.toNat*sz+(c+q)]? = vs[q]?
 | [],c,cs,h=>by obtain rfl:=Oi (show some []=some cs from h);exact⟨[],rfl,rfl,λq hq=>P' hq (F1 q)⟩
 | z::zs,c,cs,h=>by
  unfold FP at h;split at h
  ·rename_i k b hz;split at h
   ·rename_i r rs hr hrs;obtain rfl:=Oi h;obtain⟨vs,k1,k2,k3⟩:=Bt hd hn hrs;refine⟨_::vs,aN rfl k1,by simp[k2],λq hq=>?_⟩;cases q with
    | zero=>simpa using FQ hr hd n.toNat hn
    | succ q=>
     have:=k3 q (by simpa using hq);rw[show c+(q+1)=c+1+q by omega];simpa using this
   cases h
  cases h
theorem Hk{t:Nat}{i:Operand}(h:C7 C t u v=some r)(ho:r.Ob)(hx:den ρ u (a.eval x))(hi:den ρ v (a.eval i)) :
  ∃y,Yields r ρ y∧(execOp a.eval ⟨dst,.index t x i,ty,pos,after,guard⟩).run C.P W=.ok (.value y) W:=by
 unfold C7 at h;split at h
 ·rename_i l len e ei Yt;obtain⟨inf,d,ht,XX,hs,hde,hke⟩:=jU Yt;obtain⟨us,hus,e1⟩:=hx;split at h
  ·rename_i kk n YV hn;split at h
   rotate_left
   cases h;rename_i cs hbz Z5;have hb:=ia h ho;have hbz:=Nb hbz;obtain⟨vs,k1,k2,k3⟩:=Bt hus (by omega) Z5;have e2:a.eval i=.int kk (n.toNat:Int):=(by rw[SV.int?_den hn hi,Int.toNat_of_nonneg hb.1]);refine⟨_,cU h ⟨vs,k1,rfl⟩,uJ e1 e2 (by omega) ht XX ?_⟩;rw[iQ XX hde (mD hke YV),hs]
   congr 2
   apply Array.ext';apply List.ext_getElem?;intro q;simp only[Array.toList_extract,List.extract_eq_take_drop,Nat.add_sub_cancel_left];rw[List.getElem?_take];split;rename_i hq;rw[List.getElem?_drop];have:=k3 q (by omega);rw[B'] at this;simpa using this;rename_i hq;exact(List.getElem?_eq_none (by omega)).symm
  cases h
 cases h
theorem lp{b:Option Addr}{len:Nat}{w:World}(h:ats[0]? = some t)(hd:P.underlying t=some (.slice e)) :
  (Builtin.len_ ats ty #[.slice b len cap]).run P w=.ok (.int .i64 len) w:=by
 unfold Builtin.len_;rw[h];show ((underlying t >>= _).run P w)=_;simp only[underlying,Xz,run_program,Xx,hd,Xy,goInt];rfl
theorem Jv{s:ByteArray}{w:World}(h:ats[0]? = some t)(hd:P.underlying t=some .string) :
  (Builtin.len_ ats ty #[.string s]).run P w=.ok (.int .i64 s.size) w:=by
 unfold Builtin.len_;rw[h];show ((underlying t >>= _).run P w)=_;simp only[underlying,Xz,run_program,Xx,hd,Xy,goInt];rfl
theorem OU{l:List SV}(h:SU C ats l=some w)(hd:au ρ l vs):∃y,den ρ w y∧(Builtin.len_ ats ty vs.toArray).run C.P W=.ok y W:=by
 unfold SU at h;split at h
 ·rename_i x t ts hts;split at h
  ·rename_i r hr;obtain rfl:=Oi h;obtain⟨u,us,rfl,e2,e3⟩:=aF hd;obtain rfl:=bX e3;have e8:ats[0]? = some t:=(by have:=O' (·[0]?) hts;simpa using this);unfold Vh at hr;split at hr
   ·rename_i ti YD;split at hr
    ·rename_i s hk;obtain rfl:=Oi hr;obtain rfl:u=_:=e2;obtain⟨i1,d1,z1,-,Zk,-,-,-,Ze,-⟩:=(C.ty YD).ex;rw[hk] at Ze;obtain rfl:d1=.string:=by cases d1<;>first|rfl|cases Ze|(simp[aX] at Ze)
     exact⟨_,rfl,Jv e8 Zk⟩
    cases hr
   cases hr
  split at h;rename_i e Yt;obtain⟨inf,z,ht,-⟩:=bV (e:=e.1) (ei:=e.2) Yt;obtain⟨u,us,rfl,e2,e3⟩:=aF hd;obtain rfl:=bX e3;have e8:ats[0]? = some t:=(by have:=O' (·[0]?) hts;simpa using this);split at h;obtain rfl:=Oi h;obtain⟨b,-,rfl⟩:=e2;exact⟨_,rfl,lp e8 ht⟩;obtain rfl:=Oi h;obtain⟨b,cap,rfl,-⟩:=e2;exact⟨_,rfl,lp e8 ht⟩;obtain rfl:=Oi h;obtain⟨l,-,-,-,-,a',rfl,-⟩:=e2;exact⟨_,rfl,lp e8 ht⟩;obtain rfl:=Oi h;obtain⟨l,-,-,-,a',rfl,-⟩:=e2;exact⟨_,rfl,lp e8 ht⟩;obtain rfl:=Oi h;obtain⟨b,rfl⟩:=e2;exact⟨_,rfl,lp e8 ht⟩;obtain rfl:=Oi h;obtain rfl:u=_:=e2;exact⟨_,rfl,lp e8 ht⟩;cases h;cases h
 cases h
theorem Km{x y:SV}{u v:Value}(h:mm2 mx x y=some w)(e2:den ρ x u)(e5:den ρ y v):∃z,den ρ w z∧(if mx then Builtin.max2 u v else Builtin.min2 u v).run C.P W=.ok z W:=by
 unfold mm2 at h;split at h
 ·rename_i k p k' q hp hq;split at h
  ·rename_i hk;obtain rfl:=gC hk;obtain rfl:=SV.int?_den hp e2;obtain rfl:=SV.int?_den hq e5;have hmax:(Builtin.max2 (Value.int k p) (.int k q)).run C.P W=.ok (.int k (max p q)) W:=by
    simp only[Builtin.max2,Xy]
    congr 2
    by_cases hh:q > p;rw[Xl hh];omega;rw[Xk hh];omega
   have hmin:(Builtin.min2 (Value.int k p) (.int k q)).run C.P W=.ok (.int k (min p q)) W:=by
    simp only[Builtin.min2,Xy]
    congr 2
    by_cases hh:q<p;rw[Xl hh];omega;rw[Xk hh];omega
   split at h<;>obtain rfl:=Oi h;exact⟨_,rfl,hmax⟩;exact⟨_,rfl,hmin⟩;exact⟨_,rfl,hmax⟩;exact⟨_,rfl,hmin⟩
  cases h
 cases h
theorem Kk{mx:Bool} : ∀{l:List SV} {x w:SV} {u:Value} {vs:List Value},mmF mx x l=some w->den ρ x u->au ρ l vs->∃y,den ρ w y∧(vs.foldlM (λa b=>if mx then Builtin.max2 a b else Builtin.min2 a b) u).run C.P W=.ok y W
 | [],x,w,u,vs,h,hx,hd=>by obtain rfl:=Oi h;obtain rfl:=bX hd;exact⟨u,hx,rfl⟩
 | y::r,x,w,u,vs,h,hx,hd=>by obtain⟨v,vs',rfl,e2,e3⟩:=aF hd;simp only[mmF] at h;split at h;rename_i z hz;obtain⟨z',k1,k2⟩:=Km (C:=C) (W:=W) hz hx e2;obtain⟨y',k3,k4⟩:=Kk (l:=r) h k1 e3;refine⟨y',k3,?_⟩;rw[List.foldlM_cons];simp only[Xz,k2,Xx,k4];cases h
theorem Kl{l:List SV}(h:mmD mx l=some w)(hd:au ρ l vs):∃y,den ρ w y∧(if mx then Builtin.max_ ats ty vs.toArray else Builtin.min_ ats ty vs.toArray).run C.P W=.ok y W:=by
 unfold mmD at h;split at h
 ·rename_i x y r;split at h
  ·rename_i z hz;obtain⟨u,us,rfl,e2,e3⟩:=aF hd;obtain⟨v,vs',rfl,e5,e6⟩:=aF e3;obtain⟨z',k1,k2⟩:=Km (C:=C) (W:=W) hz e2 e5;obtain⟨y',k3,k4⟩:=Kk (C:=C) (W:=W) h k1 e6;refine⟨y',k3,?_⟩;cases mx with
   | true=>
    simp only[if_true] at k2 k4 ⊢;simp only[Builtin.max_,List.foldlM_cons,Xz,k2,Xx];exact k4
   | false=>
    simp only[Bool.false_eq_true,if_false] at k2 k4 ⊢;simp only[Builtin.min_,List.foldlM_cons,Xz,k2,Xx];exact k4
  cases h
 cases h
theorem xQ(h:lS op a ρ){x:Option Operand}{v:Option SV}(e:opO op x=some v):(x=none∧v=none)∨∃o u,x=some o∧v=some u∧den ρ u (a.eval o):=by
 cases x with
 | none=>exact .inl ⟨rfl,(Oi e).symm⟩
 | some o=>
  simp only[opO] at e;split at e;rename_i u hu;exact .inr ⟨o,u,rfl,(Oi e).symm,h.get hu⟩;cases e
theorem tY{b o m:Nat} : (if cap=m then some (⟨b,o,none⟩:Addr) else(some (⟨b,o,none⟩:Addr)).map (·.add (m*sz)))=if cap=m then some ⟨b,o,none⟩ else some ⟨b,o+m*sz,none⟩:=by split;rfl;rw[Option.map_some,bO]
theorem sc{hh:Nat->List SV}{ad:Option Addr}{l h:Nat}(hlh:l<=h)(hn:h<=n)(hd:den ρ (.rs sz n hh) (.slice ad n cap)):den ρ (.rs sz (h-l) λi=>hh (l+i)) (.slice (if cap=l then ad else ad.map (·.add (l*sz))) (h-l) (cap-l)):=by obtain⟨ad',cap',e,hc,h4⟩:=hd;injection e with e1 e2 e3;subst e1 e3;refine⟨_,_,rfl,by omega,λi hi=>?_⟩;obtain⟨b,o,us,rfl,k2,k3,k4⟩:=h4 (l+i) (by omega);refine⟨b,o+l*sz,us,?_,k2,k3,λk c hk=>?_⟩;rw[tY,Xk (by omega)];have:=k4 k c hk;rw[Nat.add_mul,<-Nat.add_assoc] at this;exact this
theorem oG{m e:Nat}{ad:Option Addr}{l h:Nat}(hlh:l<=h)(hn:h<=n)(hd:den ρ (.g m e sz off n) (.slice ad n cap)):den ρ (.g m e sz (off+l) (h-l)) (.slice (if cap=l then ad else ad.map (·.add (l*sz))) (h-l) (cap-l)):=by obtain⟨lv,p1,po,p2,p3,a',e,p5⟩:=hd;injection e with e1 e2 e3;subst e1 e3;refine⟨lv,p1,po,by omega,p3,_,by rw[Nat.sub_sub],λhc=>?_⟩;obtain⟨b,q1,rfl⟩:=p5 (by omega);refine⟨b,q1,?_⟩;rw[tY,Xk (by omega),Nat.add_mul]
theorem GL(h:lS op a ρ){low high max:Option Operand}{lo hi mx:Option SV}(hD:tj C t u lo hi mx=some r)(ho:r.Ob)(hx:den ρ u (a.eval x))(h1:opO op low=some lo)(h2:opO op high=some hi)(h3:opO op max=some mx) :
  ∃y,Yields r ρ y∧(execOp a.eval ⟨dst,.slice t x low high max,ty,pos,after,guard⟩).run C.P W=.ok (.value y) W:=by
 have n1:∀{x:Option Operand},opO op x=some none->x.map a.eval=none:=λ{x} hx=>by
  rcases xQ h hx with ⟨rfl,-⟩|⟨o,u,rfl,e,-⟩
  rfl;cases e
 have s1:∀{x:Option Operand} {u:SV} {k:IntKind} {n:Int},opO op x=some (some u)->u.int? = some (k,n)->x.map a.eval=some (.int k n):=λ{x u k n} hx hu=>by
  rcases xQ h hx with ⟨-,e⟩|⟨o,u',rfl,e,hd⟩
  cases e;obtain rfl:=Oi e;rw[Option.map_some,SV.int?_den hu hd]
 have z1:∀{x:Option Operand} {k:IntKind},opO op x=some (some (.il k 0))->x.map a.eval=some (.int k 0):=λ{x k} hx=>s1 hx rfl;have hnil:∀(e:Nat) (inf:TypeInfo) (ad:Option Addr) (n cap:Nat) (k k':IntKind),C.P.underlying t=some (.slice e)->C.P.info? e=some inf->a.eval x=.slice ad n cap->low.map a.eval=none->high.map a.eval=some (.int k 0)->max.map a.eval=some (.int k' 0)->
   ∃y,den ρ .e y∧(execOp a.eval ⟨dst,.slice t x low high max,ty,pos,after,guard⟩).run C.P W=.ok (.value y) W:=by
  intro e inf ad n cap k k' ht XX e1 q1 q2 q3;refine⟨_,?_,cO (l:=0) (h:=0) (m:=0) e1 ht XX ?_⟩;rw[Xl rfl];exact⟨ad,rfl⟩;rw[q1,q2,q3];exact aL (.inr ⟨k',0,rfl,by omega,by omega,rfl⟩) (.inr ⟨k,0,rfl,by omega,by omega,rfl⟩) (.inl ⟨rfl,rfl⟩)
 unfold tj at hD;split at hD
 ·-- what never changes
  rename_i sz n hh;split at hD
  ·rename_i e ei Yt;obtain⟨inf,z,ht,XX,hs,-⟩:=bV Yt;obtain⟨ad,cap,e1,e3,e4⟩:=hx;have Zy:den ρ (.rs sz n hh) (.slice ad n cap):=⟨ad,cap,rfl,e3,e4⟩
   split at hD;rename_i b1;have b1:=Nb b1;split at hD;rename_i k b hb;obtain⟨o1,o2⟩:=ia hD ho;refine⟨_,cU hD ?_,cO (l:=0) (h:=b.toNat) (m:=cap) e1 ht XX ?_⟩;have:=sc (l:=0) (h:=b.toNat) (by omega) (by omega) Zy;simp only[B'] at this;rw[hs,b1];exact this;rw[n1 h1,s1 h2 hb,n1 h3];exact aL (.inl ⟨rfl,rfl⟩) (.inr ⟨k,b,rfl,o1,by omega,rfl⟩) (.inl ⟨rfl,rfl⟩);cases hD;rename_i b1;have b1:=Nb b1;split at hD;rename_i k b hb;obtain⟨o1,o2⟩:=ia hD ho;refine⟨_,cU hD ?_,cO (l:=b.toNat) (h:=n) (m:=cap) e1 ht XX ?_⟩;have:=sc (l:=b.toNat) (h:=n) (by omega) (by omega) Zy;rw[hs,b1];exact this;rw[s1 h1 hb,n1 h2,n1 h3];exact aL (.inl ⟨rfl,rfl⟩) (.inl ⟨rfl,rfl,rfl⟩) (.inr ⟨k,b,rfl,o1,by omega,rfl⟩);cases hD;rename_i b1;have b1:=Nb b1;split at hD;rename_i k p k' q hp hq;obtain⟨o1,o2,o3⟩:=ia hD ho;refine⟨_,cU hD ?_,cO (l:=p.toNat) (h:=q.toNat) (m:=cap) e1 ht XX ?_⟩;have:=sc (l:=p.toNat) (h:=q.toNat) (by omega) (by omega) Zy;rw[hs,b1];exact this;rw[s1 h1 hp,s1 h2 hq,n1 h3];exact aL (.inl ⟨rfl,rfl⟩) (.inr ⟨k',q,rfl,by omega,by omega,rfl⟩) (.inr ⟨k,p,rfl,o1,by omega,rfl⟩);cases hD;obtain⟨y,q1,q2⟩:=hnil e inf ad n cap _ _ ht XX e1 (n1 h1) (z1 h2) (z1 h3);exact⟨y,bp hD q1,q2⟩;rename_i b1;have b1:=Nb b1;refine⟨_,bp hD ?_,cO (l:=0) (h:=n) (m:=cap) e1 ht XX ?_⟩;have:=sc (l:=0) (h:=n) (by omega) (by omega) Zy;simp only[B'] at this;rw[hs,b1];exact this;rw[n1 h1,n1 h2,n1 h3];exact aL (.inl ⟨rfl,rfl⟩) (.inl ⟨rfl,rfl,rfl⟩) (.inl ⟨rfl,rfl⟩);cases hD
  cases hD
 ·-- a list of one's own
  rename_i m e0 sz off n;split at hD;rename_i e ei Yt;obtain⟨inf,z,ht,XX,hs,-⟩:=bV Yt;have hx0:=hx;obtain⟨lv,p1,po,p2,p3,ad,e1,p5⟩:=hx;have Zy:den ρ (.g m e0 sz off n) (.slice ad n (lv.cap-off)):=(by rw[<-e1];exact hx0);have e3:n<=lv.cap-off:=(by omega);generalize lv.cap-off=cap at e1 Zy e3;split at hD;rename_i b1;have b1:=Nb b1;split at hD;rename_i k b hb;obtain⟨o1,o2⟩:=ia hD ho;refine⟨_,cU hD ?_,cO (l:=0) (h:=b.toNat) (m:=cap) e1 ht XX ?_⟩;have:=oG (l:=0) (h:=b.toNat) (by omega) (by omega) Zy;rw[hs,b1];exact this;rw[n1 h1,s1 h2 hb,n1 h3];exact aL (.inl ⟨rfl,rfl⟩) (.inr ⟨k,b,rfl,o1,by omega,rfl⟩) (.inl ⟨rfl,rfl⟩);cases hD;rename_i b1;have b1:=Nb b1;split at hD;rename_i k b hb;obtain⟨o1,o2⟩:=ia hD ho;refine⟨_,cU hD ?_,cO (l:=b.toNat) (h:=n) (m:=cap) e1 ht XX ?_⟩;have:=oG (l:=b.toNat) (h:=n) (by omega) (by omega) Zy;rw[hs,b1];exact this;rw[s1 h1 hb,n1 h2,n1 h3];exact aL (.inl ⟨rfl,rfl⟩) (.inl ⟨rfl,rfl,rfl⟩) (.inr ⟨k,b,rfl,o1,by omega,rfl⟩);cases hD;rename_i b1;have b1:=Nb b1;split at hD;rename_i k p k' q hp hq;obtain⟨o1,o2,o3⟩:=ia hD ho;refine⟨_,cU hD ?_,cO (l:=p.toNat) (h:=q.toNat) (m:=cap) e1 ht XX ?_⟩;have:=oG (l:=p.toNat) (h:=q.toNat) (by omega) (by omega) Zy;rw[hs,b1];exact this;rw[s1 h1 hp,s1 h2 hq,n1 h3];exact aL (.inl ⟨rfl,rfl⟩) (.inr ⟨k',q,rfl,by omega,by omega,rfl⟩) (.inr ⟨k,p,rfl,o1,by omega,rfl⟩);cases hD;obtain⟨y,q1,q2⟩:=hnil e inf ad n cap _ _ ht XX e1 (n1 h1) (z1 h2) (z1 h3);exact⟨y,bp hD q1,q2⟩;rename_i b1;have b1:=Nb b1;refine⟨_,bp hD ?_,cO (l:=0) (h:=n) (m:=cap) e1 ht XX ?_⟩;have:=oG (l:=0) (h:=n) (by omega) (by omega) Zy;rw[hs,b1];exact this;rw[n1 h1,n1 h2,n1 h3];exact aL (.inl ⟨rfl,rfl⟩) (.inl ⟨rfl,rfl,rfl⟩) (.inl ⟨rfl,rfl⟩);cases hD;cases hD
 rename_i n sz off len cap;split at hD;rename_i e ei Yt;obtain⟨inf,z,ht,XX,hs,-⟩:=bV Yt;obtain⟨b,hb,e1⟩:=hx;split at hD;refine⟨_,bp hD ?_,cO (l:=0) (h:=len) (m:=cap) e1 ht XX ?_⟩;refine⟨b,hb,?_⟩;rw[tY];simp;rw[n1 h1,n1 h2,n1 h3];exact aL (.inl ⟨rfl,rfl⟩) (.inl ⟨rfl,rfl,rfl⟩) (.inl ⟨rfl,rfl⟩);obtain⟨y,q1,q2⟩:=hnil e inf _ len cap _ _ ht XX e1 (n1 h1) (z1 h2) (z1 h3);exact⟨y,bp hD q1,q2⟩;cases hD;cases hD;rename_i n off;split at hD;rename_i len e ei Yt;obtain⟨inf,d,ht,XX,hs,-⟩:=jU Yt;obtain⟨b,hb,e1⟩:=hx;split at hD;rename_i k;refine⟨_,bp hD ?_,AP (l:=0) (h:=k+1) (m:=k+1) e1 ht XX ?_⟩;refine⟨b,hb,?_⟩;rw[Xk (by omega),bO];simp;rw[n1 h1,n1 h2,n1 h3];exact aL (.inl ⟨rfl,rfl⟩) (.inl ⟨rfl,rfl,rfl⟩) (.inl ⟨rfl,rfl⟩);cases hD;cases hD;split at hD;rename_i ei Yt;obtain⟨inf,z,ht,XX,hs,-⟩:=bV (e:=ei.1) (ei:=ei.2) Yt;obtain⟨ad,e1⟩:=hx;refine⟨_,bp hD ?_,cO (l:=0) (h:=0) (m:=0) e1 ht XX ?_⟩;exact⟨_,rfl⟩;rw[n1 h1,n1 h2,n1 h3];exact aL (.inl ⟨rfl,rfl⟩) (.inl ⟨rfl,rfl,rfl⟩) (.inl ⟨rfl,rfl⟩);rename_i ei k k' Yt;obtain⟨inf,z,ht,XX,hs,-⟩:=bV (e:=ei.1) (ei:=ei.2) Yt;obtain⟨ad,e1⟩:=hx;obtain⟨y,q1,q2⟩:=hnil _ inf ad 0 0 _ _ ht XX e1 (n1 h1) (z1 h2) (z1 h3);exact⟨y,bp hD q1,q2⟩;rename_i ei k Yt;obtain⟨inf,z,ht,XX,hs,-⟩:=bV (e:=ei.1) (ei:=ei.2) Yt;obtain⟨ad,e1⟩:=hx;refine⟨_,bp hD ?_,cO (l:=0) (h:=0) (m:=0) e1 ht XX ?_⟩;exact⟨_,rfl⟩;rw[n1 h1,z1 h2,n1 h3];exact aL (.inl ⟨rfl,rfl⟩) (.inr ⟨_,0,rfl,by omega,by omega,rfl⟩) (.inl ⟨rfl,rfl⟩);cases hD;split at hD;rename_i ei Yt;obtain⟨inf,z,ht,XX,hs,-⟩:=bV (e:=ei.1) (ei:=ei.2) Yt;have e1:a.eval x=_:=hx;refine⟨_,bp hD ?_,cO (l:=0) (h:=0) (m:=0) e1 ht XX ?_⟩;exact⟨_,rfl⟩;rw[n1 h1,n1 h2,n1 h3];exact aL (.inl ⟨rfl,rfl⟩) (.inl ⟨rfl,rfl,rfl⟩) (.inl ⟨rfl,rfl⟩);rename_i ei k k' Yt;obtain⟨inf,z,ht,XX,hs,-⟩:=bV (e:=ei.1) (ei:=ei.2) Yt;have e1:a.eval x=_:=hx;obtain⟨y,q1,q2⟩:=hnil _ inf none 0 0 _ _ ht XX e1 (n1 h1) (z1 h2) (z1 h3);exact⟨y,bp hD q1,q2⟩;rename_i ei k Yt;obtain⟨inf,z,ht,XX,hs,-⟩:=bV (e:=ei.1) (ei:=ei.2) Yt;have e1:a.eval x=_:=hx;refine⟨_,bp hD ?_,cO (l:=0) (h:=0) (m:=0) e1 ht XX ?_⟩;exact⟨_,rfl⟩;rw[n1 h1,z1 h2,n1 h3];exact aL (.inl ⟨rfl,rfl⟩) (.inr ⟨_,0,rfl,by omega,by omega,rfl⟩) (.inl ⟨rfl,rfl⟩);cases hD;cases hD
end
end Go.Proofs.YtmdpdknpapjchaaGreatDoor
