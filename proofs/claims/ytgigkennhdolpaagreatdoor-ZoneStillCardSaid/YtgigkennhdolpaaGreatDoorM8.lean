/- A symbolic executor with lists, 8. -/
import Derived.Test.YtgigkennhdolpaaGreatDoorM7
import Derived.ChangeKeysEq
namespace Go.Proofs.YtgigkennhdolpaaGreatDoor
open Go.RowKit
section
variable {PP:Program}{C:Cx PP}{op:ZN}{a:Act}{ρ:Names}{W W':World}{H:bc}{nm:Nat}{dst:Option Tmp}{ty:TypeId}{pos:String}{after:Array Edge}{guard:Option (Nat×Bool)}
theorem Ow{o:BinOp}{x y:Operand}{u v:SV}{r:DR}{yt t:TypeId}(h:Ox o u v=some r)(ho:r.Ob)(hx:den ρ u (a.eval x))(hy:den ρ v (a.eval y)) :
  ∃y',Yields r ρ y'∧(execOp a.eval ⟨dst,.binOp o t x y yt,ty,pos,after,guard⟩).run C.P W=.ok (.value y') W:=by
 unfold Ox at h;split at h;rename_i k p k' q hp hq;have e1:=SV.int?_den hp hx;have e2:=SV.int?_den hq hy;split at h;obtain⟨y',k1,k2⟩:=xV (P:=C.P) (w:=W) (t:=t) (ρ:=ρ) (k':=k') h ho;exact⟨y',k1,iE (by rw[e1,e2];exact kg) (by rw[e1,e2];exact k2)⟩;split at h;rename_i hk;obtain rfl:=eL hk;obtain⟨y',k1,k2⟩:=vw (P:=C.P) (w:=W) (t:=t) (ρ:=ρ) h ho;exact⟨y',k1,iE (by rw[e1,e2];exact kg) (by rw[e1,e2];exact k2)⟩;cases h;cases h
theorem Ov{m:Bool}{o:BinOp}{x y:Operand}{u v:SV}{r:DR}{yt t:TypeId}(h:KX m o u v=some r)(ho:r.Ob)(hx:den ρ u (a.eval x))(hy:den ρ v (a.eval y)) :
  ∃y',Yields r ρ y'∧(execOp a.eval ⟨dst,.binOp o t x y yt,ty,pos,after,guard⟩).run C.P W=.ok (.value y') W:=by
 unfold KX at h;split at h;exact Ow h ho hx hy;split at h;rename_i k p k' q hp hq;have e1:=SV.int?_den hp hx;have e2:=SV.int?_den hq hy;split at h;obtain⟨y',k1,k2⟩:=xV (P:=C.P) (w:=W) (t:=t) (ρ:=ρ) (k':=k') h ho;exact⟨y',k1,iE (by rw[e1,e2];exact kg) (by rw[e1,e2];exact k2)⟩;split at h;rename_i hk;obtain rfl:=eL hk;obtain⟨y',k1,k2⟩:=BZ (P:=C.P) (w:=W) (t:=t) (ρ:=ρ) h ho;exact⟨y',k1,iE (by rw[e1,e2];exact kg) (by rw[e1,e2];exact k2)⟩;cases h;cases h
theorem KW{o:BinOp}{x y:Operand}{u v w:SV}{yt t:TypeId}(h:Et C o t u v=some w)(hx:den ρ u (a.eval x))(hy:den ρ v (a.eval y)) :
  ∃y',den ρ w y'∧(execOp a.eval ⟨dst,.binOp o t x y yt,ty,pos,after,guard⟩).run C.P W=.ok (.value y') W:=by
 unfold Et at h;split at h;rename_i p q ti hp hq VL;split at h;rename_i hk;obtain rfl:=Oi h;have e1:=SV.bool?_den hp hx;have e2:=SV.bool?_den hq hy;obtain⟨i,d,z,hi,Xb,hs,hz,Wo,YC,-⟩:=(C.ty VL).ex;have hd:d=.bool:=(by rw[hk] at YC;cases d<;>first|rfl|simp[bn] at YC);subst hd;refine⟨_,rfl,iE (by rw[e1,e2];exact sU) ?_⟩;rw[e1,e2];simp only[binOp,Op.equal,Op.maxDepth,UQ,run_equalIn_bool' W 9999 t p q Xb,UO,UP];cases h;rename_i p q ti hp hq VL;split at h;rename_i hk;obtain rfl:=Oi h;have e1:=SV.bool?_den hp hx;have e2:=SV.bool?_den hq hy;obtain⟨i,d,z,hi,Xb,hs,hz,Wo,YC,-⟩:=(C.ty VL).ex;have hd:d=.bool:=(by rw[hk] at YC;cases d<;>first|rfl|simp[bn] at YC);subst hd;refine⟨_,rfl,iE (by rw[e1,e2];exact sU) ?_⟩;rw[e1,e2];simp only[binOp,Op.equal,Op.maxDepth,UQ,run_equalIn_bool' W 9999 t p q Xb,UO,UP];rfl;cases h;cases h
def valOf(ti:TI)(vs:List Value):Value:=match iS ti.k with|true=>.agg vs.toArray|false=>vs.headD undef
theorem qm{P:Program}{e:TypeId}{i:TypeInfo}{d:TypeDesc}{ti:TI}{vs:List Value}{off:Nat}(hi:P.info? e=some i)(hd:P.underlying e=some d)(hs:i.size=ti.sz)(hk:bn d ti.k=true)(hl:ti.sz<=(vs.drop off).length)(h1:iS ti.k=false->ti.sz=1) :
  (part e vs.toArray off).run P W=.ok (valOf ti ((vs.drop off).take ti.sz)) W:=by
 cases V0:iS ti.k with
 | true=>
  rw[kL hi hd (oy hk V0),hs]
  congr 1
  unfold valOf;rw[V0];simp only
  congr 1
  rw[List.length_drop] at hl;apply Array.ext';simp[List.take_drop,Nat.add_comm]
 | false=>
  have Xl:=h1 V0;rw[Xl] at hl ⊢;cases hv:vs.drop off with
  | nil=>rw[hv] at hl;simp at hl
  | cons v r=>
   have hv':vs[off]? = some v:=(by have:=Uv (·[0]?) hv;simpa using this);rw[kK (v:=v) hd (im hk V0).1 (im hk V0).2 (by simpa using hv')];unfold valOf;rw[V0];rfl
def Rx(C:Cx PP)(ρ:Names)(W:World)(h:Nat->List SV->List SV->Option Bool)(d:Nat):Prop:=
 ∀t x y c ti p q,h t x y=some c->look C.T t=some ti->ao ρ x p->ao ρ y q->(iS ti.k=false->x.length=1)∧(Op.equalIn d t (valOf ti p) (valOf ti q)).run C.P W=.ok c W
theorem D8{h:Nat->List SV->List SV->Option Bool}{d:Nat}{xs ys:List SV}{us vs:List Value}(hx:ao ρ xs us)(hy:ao ρ ys vs)(hf:Rx C ρ W h d){off ft:Nat}{r:List (Nat×Nat)}{c:Bool}(he:zE C h xs ys ((off,ft)::r)=some c) :
  ∃b p q fi,look C.T ft=some fi∧(part ft us.toArray off).run C.P W=.ok p W∧(part ft vs.toArray off).run C.P W=.ok q W∧(Op.equalIn d ft p q).run C.P W=.ok b W∧((c=b∧r=[])∨∃c',c=(b&&c')∧zE C h xs ys r=some c'):=by
 simp only[zE] at he;split at he;cases he;rename_i fi ZF;split at he;rename_i x y hxt hyt;split at he;cases he;rename_i b hb;obtain⟨i,dd,z,hi,Xb,hs,hz,Wo,hk,-⟩:=(C.ty ZF).ex;obtain⟨k1,k2⟩:=iT hxt (bX off hx);obtain⟨k3,k4⟩:=iT hyt (bX off hy);obtain⟨VF,U6⟩:=hf _ x y b fi _ _ hb ZF k1 k3;have Xl:iS fi.k=false->fi.sz=1:=λha=>(by have:=VF ha;rw[<-aF k1,List.length_take] at this;omega);refine⟨b,_,_,fi,ZF,qm hi Xb hs hk k2 Xl,qm hi Xb hs hk k4 Xl,U6,?_⟩;split at he;exact .inl ⟨(Oi he).symm,rfl⟩;split at he;rename_i c' hc';exact .inr ⟨c',(Oi he).symm,hc'⟩;cases he;cases he
theorem D9{h:Nat->List SV->List SV->Option Bool}{d:Nat}{xs ys:List SV}{us vs:List Value}(hx:ao ρ xs us)(hy:ao ρ ys vs)(hf:Rx C ρ W h d) :
  ∀(fs:List Field) (c:Bool),(∀g∈fs,g.name≠ "_")->zE C h xs ys (fs.map λg=>(g.offset,g.type))=some c->(Op.eqFields d us.toArray vs.toArray fs).run C.P W=.ok c W
 | [],c,_,h=>by obtain rfl:=Oi h;rfl
 | g::r,c,hn,he=>by
  obtain⟨b,p,q,fi,-,k1,k2,k3,k4⟩:=D8 hx hy hf he;have U2:=hn g Ut;have Ww:(Op.eqFields d us.toArray vs.toArray (g::r)).run C.P W=if (!b)=true then .ok false W else(Op.eqFields d us.toArray vs.toArray r).run C.P W:=(by simp only[Op.eqFields,ne_eq,U2,not_false_eq_true,if_true,UQ,k1,k2,k3,UO];cases b<;>rfl);rw[Ww];rcases k4 with ⟨rfl,hr⟩|⟨c',rfl,hc'⟩
  have hr:r=[]:=(by simpa using hr);subst hr;cases c<;>rfl;have ih:=D9 hx hy hf r c' (λg' Zs=>hn g' (UE _ Zs)) hc';cases b;rfl;simpa using ih
theorem tp{h:Nat->List SV->List SV->Option Bool}{d e sz:Nat}{xs ys:List SV}{us vs:List Value}(hx:ao ρ xs us)(hy:ao ρ ys vs)(hf:Rx C ρ W h d) :
  ∀(n i:Nat) (c:Bool),zE C h xs ys (Ab e sz i n)=some c->(Op.eqItems d e sz us.toArray vs.toArray (List.range' i n)).run C.P W=.ok c W
 | 0,i,c,h=>by obtain rfl:=Oi h;rfl
 | n+1,i,c,he=>by
  simp only[Ab] at he;obtain⟨b,p,q,fi,-,k1,k2,k3,k4⟩:=D8 hx hy hf he;have Ww:(Op.eqItems d e sz us.toArray vs.toArray (List.range' i (n+1))).run C.P W=if (!b)=true then .ok false W else(Op.eqItems d e sz us.toArray vs.toArray (List.range' (i+1) n)).run C.P W:=(by simp only[List.range'_succ,Op.eqItems,UQ,k1,k2,k3,UO];cases b<;>rfl);rw[Ww];rcases k4 with ⟨rfl,hr⟩|⟨c',rfl,hc'⟩
  ·cases n with
   | zero=>cases c<;>rfl
   | succ n=>simp[Ab] at hr
  have ih:=tp hx hy hf n (i+1) c' hc';cases b;rfl;simpa using ih
theorem BN:∀(k d t:Nat) (xs ys:List SV) (c:Bool) (ti:TI) (us vs:List Value),eqT C k t xs ys=some c->look C.T t=some ti->ao ρ xs us->ao ρ ys vs->
  (iS ti.k=false->xs.length=1)∧(Op.equalIn (d+k) t (valOf ti us) (valOf ti vs)).run C.P W=.ok c W
 | 0,_,_,_,_,_,_,_,_,h,_,_,_=>by cases h
 | k+1,d,t,xs,ys,c,ti,us,vs,h,VL,hx,hy=>by
  simp only[eqT,VL] at h;obtain⟨i,dd,z,hi,Xb,hs,hz,Wo,hk,-⟩:=(C.ty VL).ex;split at h
  ·rename_i fs YD;split at h
   ·rename_i heq;refine⟨(λha=>by rw[YD] at ha;cases ha),?_⟩;have he:=(C.ty VL).eq heq;simp only[Nt,Xb,Ur,Bool.not_eq_true'] at he;rw[YD] at hk;cases dd with
    | struct fs'=>
     have XE:(fs'.toList.map λf=>(f.offset,f.type))=fs:=(by simpa[bn] using hk);have hfo:C.P.fieldsOf t=fs':=(by simp[Program.fieldsOf,Xb]);have hv1:valOf ti us=.agg us.toArray:=(by unfold valOf;rw[YD];rfl);have hv2:valOf ti vs=.agg vs.toArray:=(by unfold valOf;rw[YD];rfl);rw[hv1,hv2,show d+(k+1)=(d+k)+1 from rfl,run_equalIn_struct W (d+k) t _ _ (by rw[hfo];exact Xb) he.1.1,hfo];refine D9 hx hy (λt' x y c' ti' p q h1 h2 h3 h4=>BN k d t' x y c' ti' p q h1 h2 h3 h4) fs'.toList c ?_ (by rw[XE];exact h);intro g hg;have:=List.all_eq_true.1 he.2 g hg;simpa using this
    | _=>simp[bn] at hk
   cases h
  ·rename_i n e hke;split at h
   ·rename_i ei VG;refine⟨(λha=>by rw[hke] at ha;cases ha),?_⟩;obtain⟨i2,d2,z2,Zq,hdd2,Xt,-⟩:=(C.ty VG).ex;rw[hke] at hk;cases dd with
    | array n' e'=>
     simp only[bn,Ur,beq_iff_eq] at hk;obtain⟨rfl,rfl⟩:=hk;have hv1:valOf ti us=.agg us.toArray:=(by unfold valOf;rw[hke];rfl);have hv2:valOf ti vs=.agg vs.toArray:=(by unfold valOf;rw[hke];rfl);have hco:C.P.cellsOf e'=ei.sz:=(by simp[Program.cellsOf,Zq,Xt]);rw[hv1,hv2,show d+(k+1)=(d+k)+1 from rfl,run_equalIn_array W (d+k) _ _ Xb Zq,hco,List.range_eq_range'];exact tp hx hy (λt' x y c' ti' p q h1 h2 h3 h4=>BN k d t' x y c' ti' p q h1 h2 h3 h4) n' 0 c h
    | _=>simp[bn] at hk
   cases h
  ·rename_i kk YC;split at h
   ·rename_i x y;split at h
    ·rename_i k1 a k2 b h1 h2;split at h
     ·rename_i hsk;obtain rfl:=eL hsk;obtain rfl:=Oi h;refine⟨λ_=>rfl,?_⟩;obtain⟨u,Z6,rfl,e1,e2⟩:=aN hx;obtain rfl:=cq e2;obtain⟨v,Zl,rfl,e3,e4⟩:=aN hy;obtain rfl:=cq e4;obtain rfl:=SV.int?_den h1 e1;obtain rfl:=SV.int?_den h2 e3;rw[YC] at hk;cases dd with
      | int k'=>
       have hv:∀w:Value,valOf ti [w]=w:=λw=>(by unfold valOf;rw[YC];rfl);rw[hv,hv];exact run_equalIn_int W (d+k) t _ _ a b Xb
      | _=>simp[bn] at hk
     cases h
    cases h
   cases h
  ·rename_i YC;split at h
   ·rename_i x y;split at h
    ·rename_i a b h1 h2;obtain rfl:=Oi h;refine⟨λ_=>rfl,?_⟩;obtain⟨u,Z6,rfl,e1,e2⟩:=aN hx;obtain rfl:=cq e2;obtain⟨v,Zl,rfl,e3,e4⟩:=aN hy;obtain rfl:=cq e4;obtain rfl:=SV.bool?_den h1 e1;obtain rfl:=SV.bool?_den h2 e3;rw[YC] at hk;cases dd with
     | bool=>
      have hv:∀w:Value,valOf ti [w]=w:=λw=>(by unfold valOf;rw[YC];rfl);rw[hv,hv];exact run_equalIn_bool' W (d+k) t a b Xb
     | _=>simp[bn] at hk
    cases h
   cases h
  cases h
theorem OG{o:BinOp}{x y:Operand}{u v w:SV}{yt t:TypeId}(h:K6 C o t u v=some w)(hx:den ρ u (a.eval x))(hy:den ρ v (a.eval y)) :
  ∃y',den ρ w y'∧(execOp a.eval ⟨dst,.binOp o t x y yt,ty,pos,after,guard⟩).run C.P W=.ok (.value y') W:=by
 have key:∀{xs ys:List SV} {ti:TI} {c:Bool},look C.T t=some ti->ti.eq=true->iS ti.k=true->eqT C 4 t xs ys=some c->den ρ (.agg xs) (a.eval x)->den ρ (.agg ys) (a.eval y)->
   ∃us vs:Array Value,a.eval x=.agg us∧a.eval y=.agg vs∧(Op.equalIn 10000 t (.agg us) (.agg vs)).run C.P W=.ok c W∧C.P.eqGuardType C.P.depth t=false:=by
  intro xs ys ti c VL heq V0 hc hx hy;obtain⟨us,ZT,e1⟩:=hx;obtain⟨vs,ZS,e2⟩:=hy;have:=(BN (W:=W) 4 9996 t xs ys c ti us vs hc VL ZT ZS).2;have hv:∀l:List Value,valOf ti l=.agg l.toArray:=λl=>(by unfold valOf;rw[V0]);rw[hv,hv] at this;have he:=(C.ty VL).eq heq;simp only[Nt,Ur,Bool.not_eq_true'] at he;exact⟨_,_,e1,e2,this,he.1.2⟩
 unfold K6 at h;split at h;split at h;rename_i ti VL;split at h;rename_i heq V0;replace V0:=(fV (fV V0).2).2;split at h;rename_i c hc;obtain rfl:=Oi h;obtain⟨us,vs,e1,e2,e3,e4⟩:=key VL heq V0 hc hx hy;refine⟨_,rfl,iE (by rw[e1,e2];exact run_eqGuard_agg W _ _ _ _ _ _ e4) ?_⟩;rw[e1,e2,run_eql_struct,e3];rfl;cases h;cases h;cases h;split at h;rename_i ti VL;split at h;rename_i heq V0;replace V0:=(fV (fV V0).2).2;split at h;rename_i c hc;obtain rfl:=Oi h;obtain⟨us,vs,e1,e2,e3,e4⟩:=key VL heq V0 hc hx hy;refine⟨_,rfl,iE (by rw[e1,e2];exact run_eqGuard_agg W _ _ _ _ _ _ e4) ?_⟩;rw[e1,e2,run_neq_struct,e3];rfl;cases h;cases h;cases h;cases h
theorem vb{P:Program}{op:BinOp}{t:TypeId}{x y:Operand}{n m:Option Addr} : (eqGuard op t x y (.pointer n) (.pointer m)).run P W=.ok () W:=by simp only[eqGuard];split<;>rfl
theorem qn{P:Program}{t e:TypeId}{p:Option Addr}{d:Nat}(ht:P.underlying t=some (.pointer e)):(Op.equalIn (d+1) t (.pointer p) (.pointer none)).run P W=.ok p.isNone W:=by cases p<;>simp[Op.equalIn,run_underlying ht]
theorem u0{v:SV}{y:Value}(h:BG v=true)(hd:den ρ v y):y=.pointer none:=by unfold BG at h;split at h;exact hd;cases h
theorem uO{v:SV}{y:Value}{b:Bool}(h:Bn v=some b)(hd:den ρ v y):∃p,y=.pointer p∧p.isNone=b:=by unfold Bn at h;split at h;obtain rfl:=Oi h;exact⟨none,hd,rfl⟩;obtain rfl:=Oi h;obtain⟨b,o,u,e,-⟩:=hd;exact⟨_,e,rfl⟩;obtain rfl:=Oi h;obtain⟨b,-,e⟩:=hd;exact⟨_,e,rfl⟩;obtain rfl:=Oi h;obtain⟨l,b,-,-,-,-,-,e⟩:=hd;exact⟨_,e,rfl⟩;obtain rfl:=Oi h;obtain⟨l,b,-,-,-,-,e⟩:=hd;exact⟨_,e,rfl⟩;cases h
theorem Mm{o:BinOp}{x y:Operand}{u v w:SV}{yt t:TypeId}(h:Mn C o t u v=some w)(hx:den ρ u (a.eval x))(hy:den ρ v (a.eval y)) :
  ∃y',den ρ w y'∧(execOp a.eval ⟨dst,.binOp o t x y yt,ty,pos,after,guard⟩).run C.P W=.ok (.value y') W:=by
 unfold Mn at h;split at h
 ·rename_i b ti hb hn VL;obtain⟨p,e1,e3⟩:=uO hb hx;have e2:=u0 hn hy;obtain⟨i,d,z,hi,Xb,hs,hz,Wo,YC,-⟩:=(C.ty VL).ex;have hd:Jn ti.k=true->∃e,d=.pointer e:=by
   intro hk;cases Wz:ti.k<;>rw[Wz] at hk<;>first|cases hk|skip
   rw[Wz] at YC;cases d<;>first|exact⟨_,rfl⟩|simp[bn] at YC
  split at h;rename_i hk;obtain rfl:=Oi h;obtain⟨e,rfl⟩:=hd hk;refine⟨_,rfl,iE (by rw[e1,e2];exact vb) ?_⟩;rw[e1,e2,<-e3];simp only[binOp,Op.equal,Op.maxDepth,UQ,qn (W:=W) (d:=9999) Xb,UO,UP];rename_i hk;obtain rfl:=Oi h;obtain⟨e,rfl⟩:=hd hk;refine⟨_,rfl,iE (by rw[e1,e2];exact vb) ?_⟩;rw[e1,e2,<-e3];simp only[binOp,Op.equal,Op.maxDepth,UQ,qn (W:=W) (d:=9999) Xb,UO,UP];cases h
 cases h
theorem Py{o:UnOp}{x:Operand}{u:SV}{r:DR}{t:TypeId}(h:unD o u=some r)(ho:r.Ob)(hx:den ρ u (a.eval x)) :
  ∃y,Yields r ρ y∧(execOp a.eval ⟨dst,.unOp o t x,ty,pos,after,guard⟩).run C.P W=.ok (.value y) W:=by
 unfold unD at h;split at h;have e:a.eval x=.bool _:=hx;exact⟨_,bm h rfl,zn (by rw[e];rfl)⟩;have e:a.eval x=.bool _:=hx;exact⟨_,bm h rfl,zn (by rw[e];rfl)⟩;split at h;rename_i k n hn;have e:=SV.int?_den hn hx;exact⟨_,(qe h ho).2,zn (by rw[e];simp only[Op.unary,Op.intArith,UP,Int.zero_sub])⟩;cases h;cases h
theorem Ka{src dst':TypeId}{x:Operand}{u:SV}{r:DR}(h:Ef C src dst' u=some r)(ho:r.Ob)(hx:den ρ u (a.eval x)) :
  ∃y,Yields r ρ y∧(execOp a.eval ⟨dst,.convert src dst' x,ty,pos,after,guard⟩).run C.P W=.ok (.value y) W:=by
 unfold Ef at h;split at h
 ·rename_i si ti hsi VL;obtain⟨i1,d1,z1,-,Ws,-⟩:=(C.ty hsi).ex;obtain⟨i2,d2,z2,-,WS,-,-,-,hk,-⟩:=(C.ty VL).ex;have key:∀(k k':IntKind) (n:Int),ti.k=.int k->a.eval x=.int k' n->(execOp a.eval ⟨dst,.convert src dst' x,ty,pos,after,guard⟩).run C.P W=.ok (.value (.int k (k.wrap n))) W:=by
   intro k k' n X9 hxe;rw[X9] at hk;cases d2 with
   | int k2=>
    obtain rfl:k2=k:=Od hk;simp only[execOp,hxe,convert,underlying,UQ,run_program,UO,Ws,WS,UP,Conv.intToInt]
   | _=>simp[bn] at hk
  split at h;rename_i k X9;split at h;rename_i k' n hn;have e:=SV.int?_den hn hx;split at h;obtain⟨h1,h2,h3⟩:=S6 h;exact⟨_,⟨h1,h2,by rw[h3];exact rfl⟩,key _ _ _ X9 e⟩;exact⟨_,(qe h ho).2,key _ _ _ X9 e⟩;cases h;cases h
 cases h
end
section
variable {PP:Program}{C:Cx PP}{Γ:List (UW C)}{op:ZN}{a:Act}{ρ:Names}{W W':World}{H:bc}{nm:Nat}{dst:Option Tmp}{ty:TypeId}{pos:String}{after:Array Edge}{guard:Option (Nat×Bool)}
theorem gb{i:SV}{k:Nat}{y:Value}(h:natLit i=some k)(hd:den ρ i y):∃kk,y=.int kk (k:Int):=by unfold natLit at h;split at h;obtain rfl:=Oi h;exact⟨_,hd⟩;obtain rfl:=Oi h;exact⟨_,hd⟩;cases h
theorem JX(hH:VY C H ρ W){t:Nat}{x i:Operand}{u v:SV}{r:DR}(h:JY C t u v=some r)(ho:r.Ob)(hx:den ρ u (a.eval x))(hi:den ρ v (a.eval i)) :
  ∃y,Yields r ρ y∧(execOp a.eval ⟨dst,.indexAddr t x i,ty,pos,after,guard⟩).run C.P W=.ok (.value y) W:=by
 unfold JY at h;split at h;rename_i n sz off len cap;split at h;rename_i e ei k VG hk;split at h;rename_i b1 b2;have b2:=Nb b2;rw[Nat.blt_eq] at b1;obtain⟨inf,z,ht,U',hs,-⟩:=cH VG;obtain⟨b,hb,e1⟩:=hx;obtain⟨kk,e2⟩:=gb hk hi;refine⟨_,bm h ?_,jm e1 e2 ⟨by omega,by omega⟩ ht U'⟩;rw[bR,Int.toNat_natCast,hs,b2];exact⟨b,hb,rfl⟩;cases h;cases h;rename_i sz n hh;split at h;rename_i e ei kk k VG hk;split at h;rename_i b2;have b2:=Nb b2;obtain⟨h0,h1⟩:=kZ h ho;obtain⟨inf,z,ht,U',hs,-⟩:=cH VG;obtain⟨ad,cap,e1,e3,e4⟩:=hx;obtain⟨b,o,us,rfl,k2,k3,k4⟩:=e4 k.toNat (by omega);have e2:=SV.int?_den hk hi;refine⟨_,eH h ?_,jm e1 e2 ⟨h0,h1⟩ ht U'⟩;rw[bR,hs,b2];exact⟨b,o+k.toNat*sz,us,rfl,k2,k4⟩;cases h;cases h;rename_i m e sz off n;split at h;rename_i et ei kk k VG hk;split at h;rename_i b2;have b2:=Nb b2;obtain⟨h0,h1⟩:=kZ h ho;obtain⟨inf,z,ht,U',hs,-⟩:=cH VG;obtain⟨l,p1,po,p2,p3,a',e1,p5⟩:=hx;obtain⟨b,q1,rfl⟩:=p5 (by omega);have e2:=SV.int?_den hk hi;refine⟨_,eH h ?_,jm e1 e2 ⟨h0,h1⟩ ht U'⟩;rw[bR,hs,b2];exact⟨l,b,p1,po,by omega,p3,q1,by rw[Nat.add_zero,Nat.add_mul]⟩;cases h;cases h;rename_i n off;split at h;rename_i len e ei k VG hk;split at h;rename_i b1;rw[Nat.blt_eq] at b1;obtain⟨inf,d,ht,U',hs,-⟩:=lg VG;obtain⟨b,hb,e1⟩:=hx;obtain⟨kk,e2⟩:=gb hk hi;refine⟨_,bm h ?_,ir e1 e2 ⟨by omega,by omega⟩ ht U'⟩;rw[bR,Int.toNat_natCast,hs];exact⟨b,hb,rfl⟩;cases h;cases h;rename_i xs off;split at h;rename_i len e ei k VG hk;split at h;rename_i b1;rw[Nat.blt_eq] at b1;obtain⟨inf,d,ht,U',hs,-⟩:=lg VG;obtain⟨b,o,us,e1,k2,k3⟩:=hx;obtain⟨kk,e2⟩:=gb hk hi;refine⟨_,bm h ?_,ir e1 e2 ⟨by omega,by omega⟩ ht U'⟩;rw[bR,Int.toNat_natCast,hs];exact⟨b,o,us,by rw[Nat.add_assoc],k2,k3⟩;cases h;cases h;rename_i m e sz j off;split at h;rename_i len et ei k VG hk;split at h;rename_i b1;rw[Nat.blt_eq] at b1;obtain⟨inf,d,ht,U',hs,-⟩:=lg VG;obtain⟨l,b,p1,po,p2,p3,p4,e1⟩:=hx;obtain⟨kk,e2⟩:=gb hk hi;refine⟨_,bm h ?_,ir e1 e2 ⟨by omega,by omega⟩ ht U'⟩;rw[bR,Int.toNat_natCast,hs];exact⟨l,b,p1,po,p2,p3,p4,by rw[Nat.add_assoc]⟩;cases h;cases h;rename_i m q sz off n;split at h;rename_i et ei kk k VG hk;split at h;rename_i b2;have b2:=Nb b2;obtain⟨h0,h1⟩:=kZ h ho;obtain⟨inf,z,ht,U',hs,-⟩:=cH VG;obtain⟨l,p1,p2,p3,a',e1,p5⟩:=hx;obtain⟨b,q1,rfl⟩:=p5 (by omega);have e2:=SV.int?_den hk hi;refine⟨_,eH h ?_,jm e1 e2 ⟨h0,h1⟩ ht U'⟩;rw[bR,hs,b2];exact⟨l,b,p1,by omega,p3,q1,by rw[Nat.add_zero,Nat.add_mul]⟩;cases h;cases h;rename_i m q sz j off;split at h;rename_i len et ei k VG hk;split at h;rename_i b1;rw[Nat.blt_eq] at b1;obtain⟨inf,d,ht,U',hs,-⟩:=lg VG;obtain⟨l,b,p1,p2,p3,p4,e1⟩:=hx;obtain⟨kk,e2⟩:=gb hk hi;refine⟨_,bm h ?_,ir e1 e2 ⟨by omega,by omega⟩ ht U'⟩;rw[bR,Int.toNat_natCast,hs];exact⟨l,b,p1,p2,p3,p4,by rw[Nat.add_assoc]⟩;cases h;cases h;rename_i b off;split at h;rename_i len et ei k VG hk;split at h;rename_i b1;rw[Nat.blt_eq] at b1;obtain⟨inf,d,ht,U',hs,-⟩:=lg VG;have e1:a.eval x=_:=hx;obtain⟨kk,e2⟩:=gb hk hi;refine⟨_,bm h ?_,ir e1 e2 ⟨by omega,by omega⟩ ht U'⟩;rw[bR,Int.toNat_natCast,hs];rfl;cases h;cases h;cases h
theorem FA{t:Nat}{x i:Operand}{u v w:SV}(h:BH C t u v=some w)(hx:den ρ u (a.eval x))(hi:den ρ v (a.eval i)) :
  ∃y,den ρ w y∧(execOp a.eval ⟨dst,.index t x i,ty,pos,after,guard⟩).run C.P W=.ok (.value y) W:=by
 unfold BH at h;split at h
 ·rename_i l len e ei k VG hk;obtain⟨inf,d,ht,U',hs,hde,hke⟩:=lg VG;obtain⟨us,ZT,e1⟩:=hx;obtain⟨kk,e2⟩:=gb hk hi;split at h
  ·rename_i b1 V0;rw[Nat.blt_eq] at b1;split at h
   ·rename_i m hm;obtain rfl:=Oi h;obtain⟨k1,k2⟩:=iT hm (bX (k*ei.sz) ZT);refine⟨_,⟨_,k1,rfl⟩,zu e1 e2 b1 ht U' ?_⟩;rw[kL U' hde (oy hke V0),hs];rw[List.length_drop] at k2
    congr 2
    apply Array.ext';simp[List.take_drop,Nat.add_comm]
   cases h
  rename_i b1 V0;rw[Nat.blt_eq] at b1;obtain⟨y,hy,hdy⟩:=fw ZT h;exact⟨y,hdy,zu e1 e2 b1 ht U' (kK hde (im hke V0).1 (im hke V0).2 (by rw[hs];simpa using hy))⟩;cases h
 cases h
theorem kM{P:Program}{ats:Array TypeId}{t ty e:TypeId}{b:Option Addr}{len cap:Nat}{w:World}(h:ats[0]? = some t)(hd:P.underlying t=some (.slice e)) :
  (Builtin.len_ ats ty #[.slice b len cap]).run P w=.ok (.int .i64 len) w:=by
 unfold Builtin.len_;rw[h];show ((underlying t >>= _).run P w)=_;simp only[underlying,UQ,run_program,UO,hd,UP,goInt];rfl
theorem MT{ats:Array TypeId}{l:List SV}{w:SV}{vs:List Value}(h:Qc C ats l=some w)(hd:ao ρ l vs):∃y,den ρ w y∧(Builtin.len_ ats ty vs.toArray).run C.P W=.ok y W:=by unfold Qc at h;split at h;rename_i x t ts hts;split at h;rename_i e VG;obtain⟨inf,z,ht,-⟩:=cH (e:=e.1) (ei:=e.2) VG;obtain⟨u,us,rfl,e2,e3⟩:=aN hd;obtain rfl:=cq e3;have e8:ats[0]? = some t:=(by have:=Uv (·[0]?) hts;simpa using this);split at h;obtain rfl:=Oi h;obtain⟨b,-,rfl⟩:=e2;exact⟨_,rfl,kM e8 ht⟩;obtain rfl:=Oi h;obtain⟨b,cap,rfl,-⟩:=e2;exact⟨_,rfl,kM e8 ht⟩;obtain rfl:=Oi h;obtain⟨l,-,-,-,-,a',rfl,-⟩:=e2;exact⟨_,rfl,kM e8 ht⟩;obtain rfl:=Oi h;obtain⟨l,-,-,-,a',rfl,-⟩:=e2;exact⟨_,rfl,kM e8 ht⟩;obtain rfl:=Oi h;obtain⟨b,rfl⟩:=e2;exact⟨_,rfl,kM e8 ht⟩;obtain rfl:=Oi h;obtain rfl:u=_:=e2;exact⟨_,rfl,kM e8 ht⟩;cases h;cases h;cases h
theorem Jb{mx:Bool}{x y w:SV}{u v:Value}(h:mm2 mx x y=some w)(e2:den ρ x u)(e5:den ρ y v):∃z,den ρ w z∧(if mx then Builtin.max2 u v else Builtin.min2 u v).run C.P W=.ok z W:=by
 unfold mm2 at h;split at h
 ·rename_i k p k' q hp hq;split at h
  ·rename_i hk;obtain rfl:=eL hk;obtain rfl:=SV.int?_den hp e2;obtain rfl:=SV.int?_den hq e5;have hmax:(Builtin.max2 (Value.int k p) (.int k q)).run C.P W=.ok (.int k (max p q)) W:=by
    simp only[Builtin.max2,UP]
    congr 2
    by_cases hh:q > p;rw[UD hh];omega;rw[UC hh];omega
   have hmin:(Builtin.min2 (Value.int k p) (.int k q)).run C.P W=.ok (.int k (min p q)) W:=by
    simp only[Builtin.min2,UP]
    congr 2
    by_cases hh:q<p;rw[UD hh];omega;rw[UC hh];omega
   split at h<;>obtain rfl:=Oi h;exact⟨_,rfl,hmax⟩;exact⟨_,rfl,hmin⟩;exact⟨_,rfl,hmax⟩;exact⟨_,rfl,hmin⟩
  cases h
 cases h
theorem I9{mx:Bool} : ∀{l:List SV} {x w:SV} {u:Value} {vs:List Value},mmF mx x l=some w->den ρ x u->ao ρ l vs->∃y,den ρ w y∧(vs.foldlM (λa b=>if mx then Builtin.max2 a b else Builtin.min2 a b) u).run C.P W=.ok y W
 | [],x,w,u,vs,h,hx,hd=>by obtain rfl:=Oi h;obtain rfl:=cq hd;exact⟨u,hx,rfl⟩
 | y::r,x,w,u,vs,h,hx,hd=>by obtain⟨v,Zl,rfl,e2,e3⟩:=aN hd;simp only[mmF] at h;split at h;rename_i z hz;obtain⟨z',k1,k2⟩:=Jb (C:=C) (W:=W) hz hx e2;obtain⟨y',k3,k4⟩:=I9 (l:=r) h k1 e3;refine⟨y',k3,?_⟩;rw[List.foldlM_cons];simp only[UQ,k2,UO,k4];cases h
theorem Ja{mx:Bool}{l:List SV}{w:SV}{vs:List Value}{ats:Array TypeId}(h:mmD mx l=some w)(hd:ao ρ l vs):∃y,den ρ w y∧(if mx then Builtin.max_ ats ty vs.toArray else Builtin.min_ ats ty vs.toArray).run C.P W=.ok y W:=by
 unfold mmD at h;split at h
 ·rename_i x y r;split at h
  ·rename_i z hz;obtain⟨u,us,rfl,e2,e3⟩:=aN hd;obtain⟨v,Zl,rfl,e5,e6⟩:=aN e3;obtain⟨z',k1,k2⟩:=Jb (C:=C) (W:=W) hz e2 e5;obtain⟨y',k3,k4⟩:=I9 (C:=C) (W:=W) h k1 e6;refine⟨y',k3,?_⟩;cases mx with
   | true=>
    simp only[if_true] at k2 k4 ⊢;simp only[Builtin.max_,List.foldlM_cons,UQ,k2,UO];exact k4
   | false=>
    simp only[Bool.false_eq_true,if_false] at k2 k4 ⊢;simp only[Builtin.min_,List.foldlM_cons,UQ,k2,UO];exact k4
  cases h
 cases h
theorem IP(h:mq op a ρ){x:Option Operand}{v:Option SV}(e:opO op x=some v):(x=none∧v=none)∨∃o u,x=some o∧v=some u∧den ρ u (a.eval o):=by
 cases x with
 | none=>exact .inl ⟨rfl,(Oi e).symm⟩
 | some o=>
  simp only[opO] at e;split at e;rename_i u hu;exact .inr ⟨o,u,rfl,(Oi e).symm,h.get hu⟩;cases e
theorem sL{b o m sz cap:Nat} : (if cap=m then some (⟨b,o,none⟩:Addr) else(some (⟨b,o,none⟩:Addr)).map (·.add (m*sz)))=if cap=m then some ⟨b,o,none⟩ else some ⟨b,o+m*sz,none⟩:=by split;rfl;rw[Option.map_some,bR]
theorem qV{sz n:Nat}{hh:Nat->List SV}{ad:Option Addr}{cap l h:Nat}(hlh:l<=h)(hn:h<=n)(hd:den ρ (.rs sz n hh) (.slice ad n cap)):den ρ (.rs sz (h-l) λi=>hh (l+i)) (.slice (if cap=l then ad else ad.map (·.add (l*sz))) (h-l) (cap-l)):=by obtain⟨ad',cap',e,hc,h4⟩:=hd;injection e with e1 e2 e3;subst e1 e3;refine⟨_,_,rfl,by omega,λi hi=>?_⟩;obtain⟨b,o,us,rfl,k2,k3,k4⟩:=h4 (l+i) (by omega);refine⟨b,o+l*sz,us,?_,k2,k3,λk c hk=>?_⟩;rw[sL,UC (by omega)];have:=k4 k c hk;rw[Nat.add_mul,<-Nat.add_assoc] at this;exact this
theorem wR{m e sz off n:Nat}{ad:Option Addr}{cap l h:Nat}(hlh:l<=h)(hn:h<=n)(hd:den ρ (.g m e sz off n) (.slice ad n cap)):den ρ (.g m e sz (off+l) (h-l)) (.slice (if cap=l then ad else ad.map (·.add (l*sz))) (h-l) (cap-l)):=by obtain⟨lv,p1,po,p2,p3,a',e,p5⟩:=hd;injection e with e1 e2 e3;subst e1 e3;refine⟨lv,p1,po,by omega,p3,_,by rw[Nat.sub_sub],λhc=>?_⟩;obtain⟨b,q1,rfl⟩:=p5 (by omega);refine⟨b,q1,?_⟩;rw[sL,UC (by omega),Nat.add_mul]
theorem EZ(h:mq op a ρ){t:TypeId}{x:Operand}{low high max:Option Operand}{u:SV}{lo hi mx:Option SV}{r:DR}(hD:Bb C t u lo hi mx=some r)(ho:r.Ob)(hx:den ρ u (a.eval x))
  (h1:opO op low=some lo) (h2:opO op high=some hi) (h3:opO op max=some mx) :
  ∃y,Yields r ρ y∧(execOp a.eval ⟨dst,.slice t x low high max,ty,pos,after,guard⟩).run C.P W=.ok (.value y) W:=by
 have n1:∀{x:Option Operand},opO op x=some none->x.map a.eval=none:=λ{x} hx=>by
  rcases IP h hx with ⟨rfl,-⟩|⟨o,u,rfl,e,-⟩
  rfl;cases e
 have s1:∀{x:Option Operand} {u:SV} {k:IntKind} {n:Int},opO op x=some (some u)->u.int? = some (k,n)->x.map a.eval=some (.int k n):=λ{x u k n} hx hu=>by
  rcases IP h hx with ⟨-,e⟩|⟨o,u',rfl,e,hd⟩
  cases e;obtain rfl:=Oi e;rw[Option.map_some,SV.int?_den hu hd]
 have z1:∀{x:Option Operand} {k:IntKind},opO op x=some (some (.il k 0))->x.map a.eval=some (.int k 0):=λ{x k} hx=>s1 hx rfl;have XD:∀(e:Nat) (inf:TypeInfo) (ad:Option Addr) (n cap:Nat) (k k':IntKind),C.P.underlying t=some (.slice e)->C.P.info? e=some inf->a.eval x=.slice ad n cap->low.map a.eval=none->high.map a.eval=some (.int k 0)->max.map a.eval=some (.int k' 0)->
   ∃y,den ρ .e y∧(execOp a.eval ⟨dst,.slice t x low high max,ty,pos,after,guard⟩).run C.P W=.ok (.value y) W:=by
  intro e inf ad n cap k k' ht U' e1 q1 q2 q3;refine⟨_,?_,dL (l:=0) (h:=0) (m:=0) e1 ht U' ?_⟩;rw[UD rfl];exact⟨ad,rfl⟩;rw[q1,q2,q3];exact ba (.inr ⟨k',0,rfl,by omega,by omega,rfl⟩) (.inr ⟨k,0,rfl,by omega,by omega,rfl⟩) (.inl ⟨rfl,rfl⟩)
 unfold Bb at hD;split at hD
 ·-- Yk never changes
  rename_i sz n hh;split at hD
  ·rename_i e ei VG;obtain⟨inf,z,ht,U',hs,-⟩:=cH VG;obtain⟨ad,cap,e1,e3,e4⟩:=hx;have WJ:den ρ (.rs sz n hh) (.slice ad n cap):=⟨ad,cap,rfl,e3,e4⟩
   split at hD;rename_i b1;have b1:=Nb b1;split at hD;rename_i k b hb;obtain⟨o1,o2⟩:=kZ hD ho;refine⟨_,eH hD ?_,dL (l:=0) (h:=b.toNat) (m:=cap) e1 ht U' ?_⟩;have:=qV (l:=0) (h:=b.toNat) (by omega) (by omega) WJ;simp only[B'] at this;rw[hs,b1];exact this;rw[n1 h1,s1 h2 hb,n1 h3];exact ba (.inl ⟨rfl,rfl⟩) (.inr ⟨k,b,rfl,o1,by omega,rfl⟩) (.inl ⟨rfl,rfl⟩);cases hD;rename_i b1;have b1:=Nb b1;split at hD;rename_i k b hb;obtain⟨o1,o2⟩:=kZ hD ho;refine⟨_,eH hD ?_,dL (l:=b.toNat) (h:=n) (m:=cap) e1 ht U' ?_⟩;have:=qV (l:=b.toNat) (h:=n) (by omega) (by omega) WJ;rw[hs,b1];exact this;rw[s1 h1 hb,n1 h2,n1 h3];exact ba (.inl ⟨rfl,rfl⟩) (.inl ⟨rfl,rfl,rfl⟩) (.inr ⟨k,b,rfl,o1,by omega,rfl⟩);cases hD;rename_i b1;have b1:=Nb b1;split at hD;rename_i k p k' q hp hq;obtain⟨o1,o2,o3⟩:=kZ hD ho;refine⟨_,eH hD ?_,dL (l:=p.toNat) (h:=q.toNat) (m:=cap) e1 ht U' ?_⟩;have:=qV (l:=p.toNat) (h:=q.toNat) (by omega) (by omega) WJ;rw[hs,b1];exact this;rw[s1 h1 hp,s1 h2 hq,n1 h3];exact ba (.inl ⟨rfl,rfl⟩) (.inr ⟨k',q,rfl,by omega,by omega,rfl⟩) (.inr ⟨k,p,rfl,o1,by omega,rfl⟩);cases hD;obtain⟨y,q1,q2⟩:=XD e inf ad n cap _ _ ht U' e1 (n1 h1) (z1 h2) (z1 h3);exact⟨y,bm hD q1,q2⟩;rename_i b1;have b1:=Nb b1;refine⟨_,bm hD ?_,dL (l:=0) (h:=n) (m:=cap) e1 ht U' ?_⟩;have:=qV (l:=0) (h:=n) (by omega) (by omega) WJ;simp only[B'] at this;rw[hs,b1];exact this;rw[n1 h1,n1 h2,n1 h3];exact ba (.inl ⟨rfl,rfl⟩) (.inl ⟨rfl,rfl,rfl⟩) (.inl ⟨rfl,rfl⟩);cases hD
  cases hD
 ·-- a list of one's own
  rename_i m e0 sz off n;split at hD;rename_i e ei VG;obtain⟨inf,z,ht,U',hs,-⟩:=cH VG;have hx0:=hx;obtain⟨lv,p1,po,p2,p3,ad,e1,p5⟩:=hx;have WJ:den ρ (.g m e0 sz off n) (.slice ad n (lv.cap-off)):=(by rw[<-e1];exact hx0);have e3:n<=lv.cap-off:=(by omega);generalize lv.cap-off=cap at e1 WJ e3;split at hD;rename_i b1;have b1:=Nb b1;split at hD;rename_i k b hb;obtain⟨o1,o2⟩:=kZ hD ho;refine⟨_,eH hD ?_,dL (l:=0) (h:=b.toNat) (m:=cap) e1 ht U' ?_⟩;have:=wR (l:=0) (h:=b.toNat) (by omega) (by omega) WJ;rw[hs,b1];exact this;rw[n1 h1,s1 h2 hb,n1 h3];exact ba (.inl ⟨rfl,rfl⟩) (.inr ⟨k,b,rfl,o1,by omega,rfl⟩) (.inl ⟨rfl,rfl⟩);cases hD;rename_i b1;have b1:=Nb b1;split at hD;rename_i k b hb;obtain⟨o1,o2⟩:=kZ hD ho;refine⟨_,eH hD ?_,dL (l:=b.toNat) (h:=n) (m:=cap) e1 ht U' ?_⟩;have:=wR (l:=b.toNat) (h:=n) (by omega) (by omega) WJ;rw[hs,b1];exact this;rw[s1 h1 hb,n1 h2,n1 h3];exact ba (.inl ⟨rfl,rfl⟩) (.inl ⟨rfl,rfl,rfl⟩) (.inr ⟨k,b,rfl,o1,by omega,rfl⟩);cases hD;rename_i b1;have b1:=Nb b1;split at hD;rename_i k p k' q hp hq;obtain⟨o1,o2,o3⟩:=kZ hD ho;refine⟨_,eH hD ?_,dL (l:=p.toNat) (h:=q.toNat) (m:=cap) e1 ht U' ?_⟩;have:=wR (l:=p.toNat) (h:=q.toNat) (by omega) (by omega) WJ;rw[hs,b1];exact this;rw[s1 h1 hp,s1 h2 hq,n1 h3];exact ba (.inl ⟨rfl,rfl⟩) (.inr ⟨k',q,rfl,by omega,by omega,rfl⟩) (.inr ⟨k,p,rfl,o1,by omega,rfl⟩);cases hD;obtain⟨y,q1,q2⟩:=XD e inf ad n cap _ _ ht U' e1 (n1 h1) (z1 h2) (z1 h3);exact⟨y,bm hD q1,q2⟩;rename_i b1;have b1:=Nb b1;refine⟨_,bm hD ?_,dL (l:=0) (h:=n) (m:=cap) e1 ht U' ?_⟩;have:=wR (l:=0) (h:=n) (by omega) (by omega) WJ;rw[hs,b1];exact this;rw[n1 h1,n1 h2,n1 h3];exact ba (.inl ⟨rfl,rfl⟩) (.inl ⟨rfl,rfl,rfl⟩) (.inl ⟨rfl,rfl⟩);cases hD;cases hD
 rename_i n sz off len cap;split at hD;rename_i e ei VG;obtain⟨inf,z,ht,U',hs,-⟩:=cH VG;obtain⟨b,hb,e1⟩:=hx;split at hD;refine⟨_,bm hD ?_,dL (l:=0) (h:=len) (m:=cap) e1 ht U' ?_⟩;refine⟨b,hb,?_⟩;rw[sL];simp;rw[n1 h1,n1 h2,n1 h3];exact ba (.inl ⟨rfl,rfl⟩) (.inl ⟨rfl,rfl,rfl⟩) (.inl ⟨rfl,rfl⟩);obtain⟨y,q1,q2⟩:=XD e inf _ len cap _ _ ht U' e1 (n1 h1) (z1 h2) (z1 h3);exact⟨y,bm hD q1,q2⟩;cases hD;cases hD;rename_i n off;split at hD;rename_i len e ei VG;obtain⟨inf,d,ht,U',hs,-⟩:=lg VG;obtain⟨b,hb,e1⟩:=hx;split at hD;rename_i k;refine⟨_,bm hD ?_,zp (l:=0) (h:=k+1) (m:=k+1) e1 ht U' ?_⟩;refine⟨b,hb,?_⟩;rw[UC (by omega),bR];simp;rw[n1 h1,n1 h2,n1 h3];exact ba (.inl ⟨rfl,rfl⟩) (.inl ⟨rfl,rfl,rfl⟩) (.inl ⟨rfl,rfl⟩);cases hD;cases hD;split at hD;rename_i ei VG;obtain⟨inf,z,ht,U',hs,-⟩:=cH (e:=ei.1) (ei:=ei.2) VG;obtain⟨ad,e1⟩:=hx;refine⟨_,bm hD ?_,dL (l:=0) (h:=0) (m:=0) e1 ht U' ?_⟩;exact⟨_,rfl⟩;rw[n1 h1,n1 h2,n1 h3];exact ba (.inl ⟨rfl,rfl⟩) (.inl ⟨rfl,rfl,rfl⟩) (.inl ⟨rfl,rfl⟩);rename_i ei k k' VG;obtain⟨inf,z,ht,U',hs,-⟩:=cH (e:=ei.1) (ei:=ei.2) VG;obtain⟨ad,e1⟩:=hx;obtain⟨y,q1,q2⟩:=XD _ inf ad 0 0 _ _ ht U' e1 (n1 h1) (z1 h2) (z1 h3);exact⟨y,bm hD q1,q2⟩;rename_i ei k VG;obtain⟨inf,z,ht,U',hs,-⟩:=cH (e:=ei.1) (ei:=ei.2) VG;obtain⟨ad,e1⟩:=hx;refine⟨_,bm hD ?_,dL (l:=0) (h:=0) (m:=0) e1 ht U' ?_⟩;exact⟨_,rfl⟩;rw[n1 h1,z1 h2,n1 h3];exact ba (.inl ⟨rfl,rfl⟩) (.inr ⟨_,0,rfl,by omega,by omega,rfl⟩) (.inl ⟨rfl,rfl⟩);cases hD;split at hD;rename_i ei VG;obtain⟨inf,z,ht,U',hs,-⟩:=cH (e:=ei.1) (ei:=ei.2) VG;have e1:a.eval x=_:=hx;refine⟨_,bm hD ?_,dL (l:=0) (h:=0) (m:=0) e1 ht U' ?_⟩;exact⟨_,rfl⟩;rw[n1 h1,n1 h2,n1 h3];exact ba (.inl ⟨rfl,rfl⟩) (.inl ⟨rfl,rfl,rfl⟩) (.inl ⟨rfl,rfl⟩);rename_i ei k k' VG;obtain⟨inf,z,ht,U',hs,-⟩:=cH (e:=ei.1) (ei:=ei.2) VG;have e1:a.eval x=_:=hx;obtain⟨y,q1,q2⟩:=XD _ inf none 0 0 _ _ ht U' e1 (n1 h1) (z1 h2) (z1 h3);exact⟨y,bm hD q1,q2⟩;rename_i ei k VG;obtain⟨inf,z,ht,U',hs,-⟩:=cH (e:=ei.1) (ei:=ei.2) VG;have e1:a.eval x=_:=hx;refine⟨_,bm hD ?_,dL (l:=0) (h:=0) (m:=0) e1 ht U' ?_⟩;exact⟨_,rfl⟩;rw[n1 h1,z1 h2,n1 h3];exact ba (.inl ⟨rfl,rfl⟩) (.inr ⟨_,0,rfl,by omega,by omega,rfl⟩) (.inl ⟨rfl,rfl⟩);cases hD;cases hD
end
end Go.Proofs.YtgigkennhdolpaaGreatDoor
