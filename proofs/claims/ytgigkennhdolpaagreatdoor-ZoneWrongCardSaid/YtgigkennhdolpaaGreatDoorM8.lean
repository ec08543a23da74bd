/- A symbolic executor with lists, 8. -/
import Derived.Test.YtgigkennhdolpaaGreatDoorM7
import Derived.ChangeKeysEq
namespace Go.Proofs.YtgigkennhdolpaaGreatDoor
open Go.RowKit
section
variable {PP:Program}{C:Cx PP}{op:ZD}{a:Act}{ρ:Names}{W W':World}{H:aY}{nm:Nat}{dst:Option Tmp}{ty:TypeId}{pos:String}{after:Array Edge}{guard:Option (Nat×Bool)}
theorem Nv{o:BinOp}{x y:Operand}{u v:SV}{r:DR}{yt t:TypeId}(h:Nw o u v=some r)(ho:r.Ob)(hx:den ρ u (a.eval x))(hy:den ρ v (a.eval y)) :
  ∃y',Yields r ρ y'∧(execOp a.eval ⟨dst,.binOp o t x y yt,ty,pos,after,guard⟩).run C.P W=.ok (.value y') W:=by
 unfold Nw at h;split at h;rename_i k p k' q hp hq;have e1:=SV.int?_den hp hx;have e2:=SV.int?_den hq hy;split at h;obtain⟨y',k1,k2⟩:=xN (P:=C.P) (w:=W) (t:=t) (ρ:=ρ) (k':=k') h ho;exact⟨y',k1,gW (by rw[e1,e2];exact jP) (by rw[e1,e2];exact k2)⟩;split at h;rename_i hk;obtain rfl:=fV hk;obtain⟨y',k1,k2⟩:=vm (P:=C.P) (w:=W) (t:=t) (ρ:=ρ) h ho;exact⟨y',k1,gW (by rw[e1,e2];exact jP) (by rw[e1,e2];exact k2)⟩;cases h;cases h
theorem Nu{m:Bool}{o:BinOp}{x y:Operand}{u v:SV}{r:DR}{yt t:TypeId}(h:J8 m o u v=some r)(ho:r.Ob)(hx:den ρ u (a.eval x))(hy:den ρ v (a.eval y)) :
  ∃y',Yields r ρ y'∧(execOp a.eval ⟨dst,.binOp o t x y yt,ty,pos,after,guard⟩).run C.P W=.ok (.value y') W:=by
 unfold J8 at h;split at h;exact Nv h ho hx hy;split at h;rename_i k p k' q hp hq;have e1:=SV.int?_den hp hx;have e2:=SV.int?_den hq hy;split at h;obtain⟨y',k1,k2⟩:=xN (P:=C.P) (w:=W) (t:=t) (ρ:=ρ) (k':=k') h ho;exact⟨y',k1,gW (by rw[e1,e2];exact jP) (by rw[e1,e2];exact k2)⟩;split at h;rename_i hk;obtain rfl:=fV hk;obtain⟨y',k1,k2⟩:=BG (P:=C.P) (w:=W) (t:=t) (ρ:=ρ) h ho;exact⟨y',k1,gW (by rw[e1,e2];exact jP) (by rw[e1,e2];exact k2)⟩;cases h;cases h
theorem J7{o:BinOp}{x y:Operand}{u v w:SV}{yt t:TypeId}(h:D5 C o t u v=some w)(hx:den ρ u (a.eval x))(hy:den ρ v (a.eval y)) :
  ∃y',den ρ w y'∧(execOp a.eval ⟨dst,.binOp o t x y yt,ty,pos,after,guard⟩).run C.P W=.ok (.value y') W:=by
 unfold D5 at h;split at h;rename_i p q ti hp hq Vz;split at h;rename_i hk;obtain rfl:=Oi h;have e1:=SV.bool?_den hp hx;have e2:=SV.bool?_den hq hy;obtain⟨i,d,z,hi,WQ,hs,hz,Wh,Xl,-⟩:=(C.ty Vz).ex;have hd:d=.bool:=(by rw[hk] at Xl;cases d<;>first|rfl|simp[aR] at Xl);subst hd;refine⟨_,rfl,gW (by rw[e1,e2];exact sH) ?_⟩;rw[e1,e2];simp only[binOp,Op.equal,Op.maxDepth,UJ,run_equalIn_bool' W 9999 t p q WQ,UH,UI];cases h;rename_i p q ti hp hq Vz;split at h;rename_i hk;obtain rfl:=Oi h;have e1:=SV.bool?_den hp hx;have e2:=SV.bool?_den hq hy;obtain⟨i,d,z,hi,WQ,hs,hz,Wh,Xl,-⟩:=(C.ty Vz).ex;have hd:d=.bool:=(by rw[hk] at Xl;cases d<;>first|rfl|simp[aR] at Xl);subst hd;refine⟨_,rfl,gW (by rw[e1,e2];exact sH) ?_⟩;rw[e1,e2];simp only[binOp,Op.equal,Op.maxDepth,UJ,run_equalIn_bool' W 9999 t p q WQ,UH,UI];rfl;cases h;cases h
def valOf(ti:TI)(vs:List Value):Value:=match gY ti.k with|true=>.agg vs.toArray|false=>vs.headD undef
theorem pY{P:Program}{e:TypeId}{i:TypeInfo}{d:TypeDesc}{ti:TI}{vs:List Value}{off:Nat}(hi:P.info? e=some i)(hd:P.underlying e=some d)(hs:i.size=ti.sz)(hk:aR d ti.k=true)(hl:ti.sz<=(vs.drop off).length)(h1:gY ti.k=false->ti.sz=1) :
  (part e vs.toArray off).run P W=.ok (valOf ti ((vs.drop off).take ti.sz)) W:=by
 cases VR:gY ti.k with
 | true=>
  rw[hU hi hd (lL hk VR),hs]
  congr 1
  unfold valOf;rw[VR];simp only
  congr 1
  rw[List.length_drop] at hl;apply Array.ext';simp[List.take_drop,Nat.add_comm]
 | false=>
  have Xc:=h1 VR;rw[Xc] at hl ⊢;cases hv:vs.drop off with
  | nil=>rw[hv] at hl;simp at hl
  | cons v r=>
   have hv':vs[off]? = some v:=(by have:=Uo (·[0]?) hv;simpa using this);rw[kB (v:=v) hd (gK hk VR).1 (gK hk VR).2 (by simpa using hv')];unfold valOf;rw[VR];rfl
def Q3(C:Cx PP)(ρ:Names)(W:World)(h:Nat->List SV->List SV->Option Bool)(d:Nat):Prop:=
 ∀t x y c ti p q,h t x y=some c->look C.T t=some ti->aj ρ x p->aj ρ y q->(gY ti.k=false->x.length=1)∧(Op.equalIn d t (valOf ti p) (valOf ti q)).run C.P W=.ok c W
theorem Dt{h:Nat->List SV->List SV->Option Bool}{d:Nat}{xs ys:List SV}{us vs:List Value}(hx:aj ρ xs us)(hy:aj ρ ys vs)(hf:Q3 C ρ W h d){off ft:Nat}{r:List (Nat×Nat)}{c:Bool}(he:zl C h xs ys ((off,ft)::r)=some c) :
  ∃b p q fi,look C.T ft=some fi∧(part ft us.toArray off).run C.P W=.ok p W∧(part ft vs.toArray off).run C.P W=.ok q W∧(Op.equalIn d ft p q).run C.P W=.ok b W∧((c=b∧r=[])∨∃c',c=(b&&c')∧zl C h xs ys r=some c'):=by
 simp only[zl] at he;split at he;cases he;rename_i fi Zw;split at he;rename_i x y hxt hyt;split at he;cases he;rename_i b hb;obtain⟨i,dd,z,hi,WQ,hs,hz,Wh,hk,-⟩:=(C.ty Zw).ex;obtain⟨k1,k2⟩:=iy hxt (bP off hx);obtain⟨k3,k4⟩:=iy hyt (bP off hy);obtain⟨Vr,UU⟩:=hf _ x y b fi _ _ hb Zw k1 k3;have Xc:gY fi.k=false->fi.sz=1:=λha=>(by have:=Vr ha;rw[<-aB k1,List.length_take] at this;omega);refine⟨b,_,_,fi,Zw,pY hi WQ hs hk k2 Xc,pY hi WQ hs hk k4 Xc,UU,?_⟩;split at he;exact .inl ⟨(Oi he).symm,rfl⟩;split at he;rename_i c' hc';exact .inr ⟨c',(Oi he).symm,hc'⟩;cases he;cases he
theorem Du{h:Nat->List SV->List SV->Option Bool}{d:Nat}{xs ys:List SV}{us vs:List Value}(hx:aj ρ xs us)(hy:aj ρ ys vs)(hf:Q3 C ρ W h d) :
  ∀(fs:List Field) (c:Bool),(∀g∈fs,g.name≠ "_")->zl C h xs ys (fs.map λg=>(g.offset,g.type))=some c->(Op.eqFields d us.toArray vs.toArray fs).run C.P W=.ok c W
 | [],c,_,h=>by obtain rfl:=Oi h;rfl
 | g::r,c,hn,he=>by
  obtain⟨b,p,q,fi,-,k1,k2,k3,k4⟩:=Dt hx hy hf he;have UR:=hn g Um;have Wk:(Op.eqFields d us.toArray vs.toArray (g::r)).run C.P W=if (!b)=true then .ok false W else(Op.eqFields d us.toArray vs.toArray r).run C.P W:=(by simp only[Op.eqFields,ne_eq,UR,not_false_eq_true,if_true,UJ,k1,k2,k3,UH];cases b<;>rfl);rw[Wk];rcases k4 with ⟨rfl,hr⟩|⟨c',rfl,hc'⟩
  have hr:r=[]:=(by simpa using hr);subst hr;cases c<;>rfl;have ih:=Du hx hy hf r c' (λg' Zl=>hn g' (Ux _ Zl)) hc';cases b;rfl;simpa using ih
theorem sZ{h:Nat->List SV->List SV->Option Bool}{d e sz:Nat}{xs ys:List SV}{us vs:List Value}(hx:aj ρ xs us)(hy:aj ρ ys vs)(hf:Q3 C ρ W h d) :
  ∀(n i:Nat) (c:Bool),zl C h xs ys (zS e sz i n)=some c->(Op.eqItems d e sz us.toArray vs.toArray (List.range' i n)).run C.P W=.ok c W
 | 0,i,c,h=>by obtain rfl:=Oi h;rfl
 | n+1,i,c,he=>by
  simp only[zS] at he;obtain⟨b,p,q,fi,-,k1,k2,k3,k4⟩:=Dt hx hy hf he;have Wk:(Op.eqItems d e sz us.toArray vs.toArray (List.range' i (n+1))).run C.P W=if (!b)=true then .ok false W else(Op.eqItems d e sz us.toArray vs.toArray (List.range' (i+1) n)).run C.P W:=(by simp only[List.range'_succ,Op.eqItems,UJ,k1,k2,k3,UH];cases b<;>rfl);rw[Wk];rcases k4 with ⟨rfl,hr⟩|⟨c',rfl,hc'⟩
  ·cases n with
   | zero=>cases c<;>rfl
   | succ n=>simp[zS] at hr
  have ih:=sZ hx hy hf n (i+1) c' hc';cases b;rfl;simpa using ih
theorem Bu:∀(k d t:Nat) (xs ys:List SV) (c:Bool) (ti:TI) (us vs:List Value),eqT C k t xs ys=some c->look C.T t=some ti->aj ρ xs us->aj ρ ys vs->
  (gY ti.k=false->xs.length=1)∧(Op.equalIn (d+k) t (valOf ti us) (valOf ti vs)).run C.P W=.ok c W
 | 0,_,_,_,_,_,_,_,_,h,_,_,_=>by cases h
 | k+1,d,t,xs,ys,c,ti,us,vs,h,Vz,hx,hy=>by
  simp only[eqT,Vz] at h;obtain⟨i,dd,z,hi,WQ,hs,hz,Wh,hk,-⟩:=(C.ty Vz).ex;split at h
  ·rename_i fs Yg;split at h
   ·rename_i heq;refine⟨(λha=>by rw[Yg] at ha;cases ha),?_⟩;have he:=(C.ty Vz).eq heq;simp only[MD,WQ,Uk,Bool.not_eq_true'] at he;rw[Yg] at hk;cases dd with
    | struct fs'=>
     have X1:(fs'.toList.map λf=>(f.offset,f.type))=fs:=(by simpa[aR] using hk);have hfo:C.P.fieldsOf t=fs':=(by simp[Program.fieldsOf,WQ]);have hv1:valOf ti us=.agg us.toArray:=(by unfold valOf;rw[Yg];rfl);have Z0:valOf ti vs=.agg vs.toArray:=(by unfold valOf;rw[Yg];rfl);rw[hv1,Z0,show d+(k+1)=(d+k)+1 from rfl,run_equalIn_struct W (d+k) t _ _ (by rw[hfo];exact WQ) he.1.1,hfo];refine Du hx hy (λt' x y c' ti' p q h1 h2 h3 h4=>Bu k d t' x y c' ti' p q h1 h2 h3 h4) fs'.toList c ?_ (by rw[X1];exact h);intro g hg;have:=List.all_eq_true.1 he.2 g hg;simpa using this
    | _=>simp[aR] at hk
   cases h
  ·rename_i n e hke;split at h
   ·rename_i ei Vw;refine⟨(λha=>by rw[hke] at ha;cases ha),?_⟩;obtain⟨i2,d2,z2,YP,hdd2,VH,-⟩:=(C.ty Vw).ex;rw[hke] at hk;cases dd with
    | array n' e'=>
     simp only[aR,Uk,beq_iff_eq] at hk;obtain⟨rfl,rfl⟩:=hk;have hv1:valOf ti us=.agg us.toArray:=(by unfold valOf;rw[hke];rfl);have Z0:valOf ti vs=.agg vs.toArray:=(by unfold valOf;rw[hke];rfl);have hco:C.P.cellsOf e'=ei.sz:=(by simp[Program.cellsOf,YP,VH]);rw[hv1,Z0,show d+(k+1)=(d+k)+1 from rfl,run_equalIn_array W (d+k) _ _ WQ YP,hco,List.range_eq_range'];exact sZ hx hy (λt' x y c' ti' p q h1 h2 h3 h4=>Bu k d t' x y c' ti' p q h1 h2 h3 h4) n' 0 c h
    | _=>simp[aR] at hk
   cases h
  ·rename_i kk Xl;split at h
   ·rename_i x y;split at h
    ·rename_i k1 a k2 b h1 h2;split at h
     ·rename_i hsk;obtain rfl:=fV hsk;obtain rfl:=Oi h;refine⟨λ_=>rfl,?_⟩;obtain⟨u,ZV,rfl,e1,e2⟩:=aJ hx;obtain rfl:=cd e2;obtain⟨v,Zd,rfl,e3,e4⟩:=aJ hy;obtain rfl:=cd e4;obtain rfl:=SV.int?_den h1 e1;obtain rfl:=SV.int?_den h2 e3;rw[Xl] at hk;cases dd with
      | int k'=>
       have hv:∀w:Value,valOf ti [w]=w:=λw=>(by unfold valOf;rw[Xl];rfl);rw[hv,hv];exact run_equalIn_int W (d+k) t _ _ a b WQ
      | _=>simp[aR] at hk
     cases h
    cases h
   cases h
  ·rename_i Xl;split at h
   ·rename_i x y;split at h
    ·rename_i a b h1 h2;obtain rfl:=Oi h;refine⟨λ_=>rfl,?_⟩;obtain⟨u,ZV,rfl,e1,e2⟩:=aJ hx;obtain rfl:=cd e2;obtain⟨v,Zd,rfl,e3,e4⟩:=aJ hy;obtain rfl:=cd e4;obtain rfl:=SV.bool?_den h1 e1;obtain rfl:=SV.bool?_den h2 e3;rw[Xl] at hk;cases dd with
     | bool=>
      have hv:∀w:Value,valOf ti [w]=w:=λw=>(by unfold valOf;rw[Xl];rfl);rw[hv,hv];exact run_equalIn_bool' W (d+k) t a b WQ
     | _=>simp[aR] at hk
    cases h
   cases h
  cases h
theorem NU{o:BinOp}{x y:Operand}{u v w:SV}{yt t:TypeId}(h:Kk C o t u v=some w)(hx:den ρ u (a.eval x))(hy:den ρ v (a.eval y)) :
  ∃y',den ρ w y'∧(execOp a.eval ⟨dst,.binOp o t x y yt,ty,pos,after,guard⟩).run C.P W=.ok (.value y') W:=by
 have key:∀{xs ys:List SV} {ti:TI} {c:Bool},look C.T t=some ti->ti.eq=true->gY ti.k=true->eqT C 4 t xs ys=some c->den ρ (.agg xs) (a.eval x)->den ρ (.agg ys) (a.eval y)->
   ∃us vs:Array Value,a.eval x=.agg us∧a.eval y=.agg vs∧(Op.equalIn 10000 t (.agg us) (.agg vs)).run C.P W=.ok c W∧C.P.eqGuardType C.P.depth t=false:=by
  intro xs ys ti c Vz heq VR hc hx hy;obtain⟨us,Zh,e1⟩:=hx;obtain⟨vs,ZH,e2⟩:=hy;have:=(Bu (W:=W) 4 9996 t xs ys c ti us vs hc Vz Zh ZH).2;have hv:∀l:List Value,valOf ti l=.agg l.toArray:=λl=>(by unfold valOf;rw[VR]);rw[hv,hv] at this;have he:=(C.ty Vz).eq heq;simp only[MD,Uk,Bool.not_eq_true'] at he;exact⟨_,_,e1,e2,this,he.1.2⟩
 unfold Kk at h;split at h;split at h;rename_i ti Vz;split at h;rename_i heq VR;replace VR:=(fF (fF VR).2).2;split at h;rename_i c hc;obtain rfl:=Oi h;obtain⟨us,vs,e1,e2,e3,e4⟩:=key Vz heq VR hc hx hy;refine⟨_,rfl,gW (by rw[e1,e2];exact run_eqGuard_agg W _ _ _ _ _ _ e4) ?_⟩;rw[e1,e2,run_eql_struct,e3];rfl;cases h;cases h;cases h;split at h;rename_i ti Vz;split at h;rename_i heq VR;replace VR:=(fF (fF VR).2).2;split at h;rename_i c hc;obtain rfl:=Oi h;obtain⟨us,vs,e1,e2,e3,e4⟩:=key Vz heq VR hc hx hy;refine⟨_,rfl,gW (by rw[e1,e2];exact run_eqGuard_agg W _ _ _ _ _ _ e4) ?_⟩;rw[e1,e2,run_neq_struct,e3];rfl;cases h;cases h;cases h;cases h
theorem uX{P:Program}{op:BinOp}{t:TypeId}{x y:Operand}{n m:Option Addr} : (eqGuard op t x y (.pointer n) (.pointer m)).run P W=.ok () W:=by simp only[eqGuard];split<;>rfl
theorem pZ{P:Program}{t e:TypeId}{p:Option Addr}{d:Nat}(ht:P.underlying t=some (.pointer e)):(Op.equalIn (d+1) t (.pointer p) (.pointer none)).run P W=.ok p.isNone W:=by cases p<;>simp[Op.equalIn,run_underlying ht]
theorem uS{v:SV}{y:Value}(h:Bn v=true)(hd:den ρ v y):y=.pointer none:=by unfold Bn at h;split at h;exact hd;cases h
theorem uH{v:SV}{y:Value}{b:Bool}(h:AW v=some b)(hd:den ρ v y):∃p,y=.pointer p∧p.isNone=b:=by unfold AW at h;split at h;obtain rfl:=Oi h;exact⟨none,hd,rfl⟩;obtain rfl:=Oi h;obtain⟨b,o,u,e,-⟩:=hd;exact⟨_,e,rfl⟩;obtain rfl:=Oi h;obtain⟨b,-,e⟩:=hd;exact⟨_,e,rfl⟩;obtain rfl:=Oi h;obtain⟨l,b,-,-,-,-,-,e⟩:=hd;exact⟨_,e,rfl⟩;obtain rfl:=Oi h;obtain⟨l,b,-,-,-,-,e⟩:=hd;exact⟨_,e,rfl⟩;cases h
theorem Ly{o:BinOp}{x y:Operand}{u v w:SV}{yt t:TypeId}(h:Lz C o t u v=some w)(hx:den ρ u (a.eval x))(hy:den ρ v (a.eval y)) :
  ∃y',den ρ w y'∧(execOp a.eval ⟨dst,.binOp o t x y yt,ty,pos,after,guard⟩).run C.P W=.ok (.value y') W:=by
 unfold Lz at h;split at h
 ·rename_i b ti hb hn Vz;obtain⟨p,e1,e3⟩:=uH hb hx;have e2:=uS hn hy;obtain⟨i,d,z,hi,WQ,hs,hz,Wh,Xl,-⟩:=(C.ty Vz).ex;have hd:IN ti.k=true->∃e,d=.pointer e:=by
   intro hk;cases V6:ti.k<;>rw[V6] at hk<;>first|cases hk|skip
   rw[V6] at Xl;cases d<;>first|exact⟨_,rfl⟩|simp[aR] at Xl
  split at h;rename_i hk;obtain rfl:=Oi h;obtain⟨e,rfl⟩:=hd hk;refine⟨_,rfl,gW (by rw[e1,e2];exact uX) ?_⟩;rw[e1,e2,<-e3];simp only[binOp,Op.equal,Op.maxDepth,UJ,pZ (W:=W) (d:=9999) WQ,UH,UI];rename_i hk;obtain rfl:=Oi h;obtain⟨e,rfl⟩:=hd hk;refine⟨_,rfl,gW (by rw[e1,e2];exact uX) ?_⟩;rw[e1,e2,<-e3];simp only[binOp,Op.equal,Op.maxDepth,UJ,pZ (W:=W) (d:=9999) WQ,UH,UI];cases h
 cases h
theorem O5{o:UnOp}{x:Operand}{u:SV}{r:DR}{t:TypeId}(h:unD o u=some r)(ho:r.Ob)(hx:den ρ u (a.eval x)) :
  ∃y,Yields r ρ y∧(execOp a.eval ⟨dst,.unOp o t x,ty,pos,after,guard⟩).run C.P W=.ok (.value y) W:=by
 unfold unD at h;split at h;have e:a.eval x=.bool _:=hx;exact⟨_,bg h rfl,Dp (by rw[e];rfl)⟩;have e:a.eval x=.bool _:=hx;exact⟨_,bg h rfl,Dp (by rw[e];rfl)⟩;split at h;rename_i k n hn;have e:=SV.int?_den hn hx;exact⟨_,(pP h ho).2,Dp (by rw[e];simp only[Op.unary,Op.intArith,UI,Int.zero_sub])⟩;cases h;cases h
theorem JC{src dst':TypeId}{x:Operand}{u:SV}{r:DR}(h:DG C src dst' u=some r)(ho:r.Ob)(hx:den ρ u (a.eval x)) :
  ∃y,Yields r ρ y∧(execOp a.eval ⟨dst,.convert src dst' x,ty,pos,after,guard⟩).run C.P W=.ok (.value y) W:=by
 unfold DG at h;split at h
 ·rename_i si ti hsi Vz;obtain⟨i1,d1,z1,-,Wl,-⟩:=(C.ty hsi).ex;obtain⟨i2,d2,z2,-,Xe,-,-,-,hk,-⟩:=(C.ty Vz).ex;have key:∀(k k':IntKind) (n:Int),ti.k=.int k->a.eval x=.int k' n->(execOp a.eval ⟨dst,.convert src dst' x,ty,pos,after,guard⟩).run C.P W=.ok (.value (.int k (k.wrap n))) W:=by
   intro k k' n XR hxe;rw[XR] at hk;cases d2 with
   | int k2=>
    obtain rfl:k2=k:=Od hk;simp only[execOp,hxe,convert,underlying,UJ,run_program,UH,Wl,Xe,UI,Conv.intToInt]
   | _=>simp[aR] at hk
  split at h;rename_i k XR;split at h;rename_i k' n hn;have e:=SV.int?_den hn hx;split at h;obtain⟨h1,h2,h3⟩:=SS h;exact⟨_,⟨h1,h2,by rw[h3];exact rfl⟩,key _ _ _ XR e⟩;exact⟨_,(pP h ho).2,key _ _ _ XR e⟩;cases h;cases h
 cases h
end
end Go.Proofs.YtgigkennhdolpaaGreatDoor
