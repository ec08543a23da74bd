/- A symbolic executor with lists. -/
import Derived.OpenShut
import Derived.Deep.Slices
import Derived.Test.YtmdpdknpapjchaaGreatDoorRows
import Derived.LaidMore
import Derived.LaidOnce
import Derived.Test.YtmdpdknpapjchaaGreatDoorM46
import Derived.LaidSub
import Derived.Conc.LeavingOf
import Derived.SevenTiedAt
set_option linter.all false
namespace Go.Proofs.YtmdpdknpapjchaaGreatDoor
section
open Go.ChangeShapes Go.WideShapes Go.RowKit
variable {e t:Nat}{ti:TI}{d:TypeDesc}
inductive Pt where
 | int (k:IntKind)
 | bool
 | any
 | sl (sz:Nat) (e:List Pt)
 | agg (l:List Pt)
variable {p:Pt}
mutual
def Fit:Pt->SV->Prop
 | .int k,x=>match x with|.v (.int k' n)=>k'=k∧k.min<=n∧n<=k.max|_=>False
 | .bool,x=>match x with|.v (.bool _)=>True|_=>False
 | .any,x=>match x with|.v (.string _)=>True|_=>False
 | .sl sz ps,x=>match x with|.rs Yb n f=>Yb=sz∧n<=maxLen∧∀i,i<n->jI ps (f i)|_=>False
 | .agg ps,x=>match x with|.agg l=>jI ps l|_=>False
def jI:List Pt->List SV->Prop
 | [],x=>match x with|[]=>True|_::_=>False
 | p::r,x=>match x with|[]=>False|y::s=>Fit p y∧jI r s
end
mutual
def Pt.pat:Pt->SV
 | .int k=>.v (.int k 0)
 | .bool=>.v (.bool false)
 | .any=>.v (.string ⟨#[]⟩)
 | .sl sz ps=>.rs sz 0 λ_=>Pt.ov ps
 | .agg ps=>.agg (Pt.ov ps)
def Pt.ov:List Pt->List SV
 | []=>[]
 | p::r=>p.pat::Pt.ov r
end
mutual
theorem Hs:∀(p:Pt) (x:SV),Fit p x->alike p.pat x
 | .int k,x,h=>by unfold Fit at h;split at h;exact h.1;exact h.elim
 | .bool,x,h=>by unfold Fit at h;split at h;exact trivial;exact h.elim
 | .any,x,h=>by unfold Fit at h;split at h;exact trivial;exact h.elim
 | .sl sz ps,x,h=>by unfold Fit at h;split at h;exact⟨h.1,λi hi=>lL ps _ (h.2.2 i hi)⟩;exact h.elim
 | .agg ps,x,h=>by unfold Fit at h;split at h;exact lL ps _ h;exact h.elim
theorem lL:∀(p:List Pt) (x:List SV),jI p x->dD (Pt.ov p) x
 | [],x,h=>by
  cases x with
  | nil=>trivial
  | cons _ _=>exact h.elim
 | p::r,x,h=>by
  cases x with
  | nil=>exact h.elim
  | cons y s=>exact⟨Hs p y h.1,lL r s h.2⟩
end
mutual
theorem Tn:∀(p:Pt) (x:SV),Fit p x->Fit p (jn false p.pat x)
 | .int k,x,h=>by unfold Fit at h;split at h;exact⟨rfl,h.2⟩;exact h.elim
 | .bool,x,h=>by unfold Fit at h;split at h;exact trivial;exact h.elim
 | .any,x,h=>by unfold Fit at h;split at h;exact trivial;exact h.elim
 | .sl sz ps,x,h=>by unfold Fit at h;split at h;exact⟨rfl,h.2.1,λi hi=>sL ps _ (h.2.2 i hi)⟩;exact h.elim
 | .agg ps,x,h=>by unfold Fit at h;split at h;exact sL ps _ h;exact h.elim
theorem sL:∀(p:List Pt) (x:List SV),jI p x->jI p (jnL false (Pt.ov p) x)
 | [],x,h=>trivial
 | p::r,x,h=>by
  cases x with
  | nil=>exact h.elim
  | cons y s=>exact⟨Tn p y h.1,sL r s h.2⟩
end
theorem Pv{ρ:Names}{x:SV}{v:Value}(h:Fit p x)(hp:∀l,p≠.agg l)(hd:den ρ x v):v.oneCell'=true:=by
 cases p with
 | int k=>
  unfold Fit at h;split at h;obtain rfl:v=_:=hd;rfl;exact h.elim
 | bool=>
  unfold Fit at h;split at h;obtain rfl:v=_:=hd;rfl;exact h.elim
 | any=>
  unfold Fit at h;split at h;obtain rfl:v=_:=hd;rfl;exact h.elim
 | sl sz ps=>
  unfold Fit at h;split at h;obtain⟨a,cap,rfl,-⟩:=hd;rfl;exact h.elim
 | agg l=>exact P' rfl (hp l)
def Dd:Pt->Bool
 | .agg _=>false
 | _=>true
theorem AG{ρ:Names} : ∀{p:List Pt} {x:List SV} {vs:List Value},jI p x->p.all Dd=true->au ρ x vs->∀c∈vs,c.oneCell'=true
 | [],x,vs,h,_,hd,c,hc=>by
  cases x with
  | nil=>rw[bX hd] at hc;cases hc
  | cons _ _=>exact h.elim
 | p::r,x,vs,h,hp,hd,c,hc=>by
  cases x with
  | nil=>exact h.elim
  | cons y s=>
   obtain⟨a,b,rfl,h1,h2⟩:=aF hd;rw[List.all_cons,I'] at hp;rcases Xq.1 hc with rfl|hc;exact Pv h.1 (λl e=>by rw[e] at hp;exact P' hp.1 (by simp[Dd])) h1;exact AG h.2 hp.2 h2 c hc
theorem rE{p q:List Pt}{x y:List SV}(h:jI p x)(k:jI q y):jI (p++q) (x++y):=by
 induction p generalizing x with
 | nil=>
  cases x with
  | nil=>exact k
  | cons _ _=>exact h.elim
 | cons a r ih=>
  cases x with
  | nil=>exact h.elim
  | cons b s=>exact⟨h.1,ih h.2⟩
def uD(rec:Nat->Option (List Pt))(T:List (Nat×TI))(total:Nat):Nat->List (Nat×Nat)->Option (List Pt)
 | off,[]=>match Nat.beq off total with|true=>some []|false=>none
 | off,(o,t)::r=>match Nat.beq o off,rec t,look T t with
  | true,some ps,some ti=>match Nat.beq ps.length ti.sz,uD rec T total (off+ti.sz) r with
   | true,some qs=>some (ps++qs)
   | _,_=>none
  | _,_,_=>none
def Sd:Nat->List Pt->List Pt
 | 0,_=>[]
 | n+1,l=>l++Sd n l
def rA(P:Program)(T:List (Nat×TI)):Nat->Nat->Option (List Pt)
 | 0,_=>none
 | d+1,t=>match look T t with
  | none=>none
  | some ti=>match ti.k with
   | .int k=>some [.int k]
   | .bool=>some [.bool]
   | .sl e=>match rA P T d e,look T e with
    | some ps,some ei=>match Nat.beq ps.length ei.sz,ei.sz,ps.all Dd with
     | true,k+1,true=>some [.sl (k+1) ps]
     | _,_,_=>none
    | _,_=>none
   | .struct fs=>uD (rA P T d) T ti.sz 0 fs
   | .arr n e=>match rA P T d e,look T e with
    | some ps,some ei=>match Nat.beq ps.length ei.sz,Nat.beq (n*ei.sz) ti.sz with
     | true,true=>some (Sd n ps)
     | _,_=>none
    | _,_=>none
   | .prim=>none
   | .str=>some [.any]
   | .mp _ _=>none
   | .ptr=>none
def T6(T:List (Nat×TI))(t:Nat):Bool:=match look T t with|some ti=>iM ti.k|none=>false
def T0(P:Program)(T:List (Nat×TI))(t:Nat):Option Pt:=match rA P T 10 t with
 | none=>none
 | some ps=>match T6 T t with
  | true=>some (.agg ps)
  | false=>match ps with|[p]=>some p|_=>none
def MA(P:Program)(T:List (Nat×TI)):List Nat->Option (List Pt)
 | []=>some []
 | t::r=>match T0 P T t,MA P T r with|some p,some q=>some (p::q)|_,_=>none
section
variable {PP:Program}{C:Cx PP}{H:Type}{enc:TypeId×Value->H}{W:World}{sp:Nat->Bool}{held:Bool}
theorem iP(h:look C.T t=some ti):C.P.cellsOf t=ti.sz:=by obtain⟨i,d,z,h1,h2,h3,-⟩:=(C.ty h).ex;simp[Program.cellsOf,h1,h3]
theorem m9(h:look C.T t=some ti):∃d,C.P.underlying t=some d∧aX d ti.k=true:=by obtain⟨i,d,z,h1,h2,h3,h4,h5,h6,-⟩:=(C.ty h).ex;exact⟨d,h2,h6⟩
theorem uT{k:IntKind}(h:aX d (.int k)=true):d=.int k:=by
 cases d with
 | int k'=>obtain rfl:k'=k:=Od h;rfl
 | _=>first|cases h|(simp[aX] at h)
theorem Bg(h:aX d .str=true):d=.string:=by
 cases d with
 | string=>rfl
 | _=>first|cases h|(simp[aX] at h)
theorem xa(h:aX d .bool=true):d=.bool:=by
 cases d with
 | bool=>rfl
 | _=>first|cases h|(simp[aX] at h)
theorem FE(h:aX d (.sl e)=true):d=.slice e:=by
 cases d with
 | slice e'=>obtain rfl:e'=e:=eq_of_beq h;rfl
 | _=>first|cases h|(simp[aX] at h)
theorem mQ{l:List (Nat×Nat)}(h:aX d (.struct l)=true):∃fs,d=.struct fs∧(fs.toList.map λf=>(f.offset,f.type))=l:=by
 cases d with
 | struct fs=>exact⟨fs,rfl,eq_of_beq h⟩
 | _=>first|cases h|(simp[aX] at h)
theorem uU{n:Nat}(h:aX d (.arr n e)=true):d=.array n e:=by
 cases d with
 | array n' e'=>
  simp only[aX,I',beq_iff_eq] at h;rw[h.1,h.2]
 | _=>first|cases h|(simp[aX] at h)
theorem Ld{rec:Nat->Option (List Pt)}{m total:Nat}(Y3:∀t ps,rec t=some ps->∀cs (x:DataW H×List MemPlace),DataW.trod enc C.P W 0 sp held m t cs=some x->∃l,jI ps l∧au (zW W) l cs){cs:List Value}(Z5:cs.length=total) :
  ∀(fs:List Field) (off:Nat) (ps:List Pt),uD rec C.T total off (fs.map λf=>(f.offset,f.type))=some ps->(∀f∈fs,∃x:DataW H×List MemPlace,DataW.trod enc C.P W 0 sp held m f.type ((cs.drop f.offset).take (C.P.cellsOf f.type))=some x)->
   ∃l,jI ps l∧au (zW W) l (cs.drop off)
 | [],off,ps,h,_=>by simp only[List.map_nil,uD] at h;split at h;rename_i hb;obtain rfl:=Oi h;have:=Nb hb;exact⟨[],trivial,by rw[List.drop_of_length_le (by omega)];rfl⟩;cases h
 | f::r,off,ps,h,hf=>by simp only[List.map_cons,uD] at h;split at h;rename_i p ti hb hp YD;split at h;rename_i q Yi hq;obtain rfl:=Oi h;obtain rfl:=Nb hb;have hpl:=Nb Yi;obtain⟨x,hx⟩:=hf f J';rw[iP YD] at hx;obtain⟨l1,k1,k2⟩:=Y3 _ _ hp _ _ hx;obtain⟨l2,k3,k4⟩:=Ld Y3 Z5 r _ _ hq λg hg=>hf g (Xm _ hg);refine⟨l1++l2,rE k1 k3,?_⟩;have e:cs.drop f.offset=(cs.drop f.offset).take ti.sz++cs.drop (f.offset+ti.sz):=(by rw[<-List.drop_drop,List.take_append_drop]);rw[e];exact bg k2 k4;cases h;cases h
theorem Gg{ps:List Pt}{sz:Nat}{cs:List Value}{f:Nat->List Value} : ∀(n i:Nat),(∀j,j<n->∃l,jI ps l∧au (zW W) l ((cs.drop ((i+j)*sz)).take sz))->cs.length=(i+n)*sz->∃l,jI (Sd n ps) l∧au (zW W) l (cs.drop (i*sz))
 | 0,i,_,hl=>⟨[],trivial,by rw[List.drop_of_length_le (by rw[hl];simp)];rfl⟩
 | n+1,i,h,hl=>by obtain⟨l1,k1,k2⟩:=h 0 (by omega);obtain⟨l2,k3,k4⟩:=Gg (f:=f) n (i+1) (λj hj=>by have:=h (j+1) (by omega);rwa [show i+(j+1)=i+1+j by omega] at this) (by rw[hl];congr 1;omega);refine⟨l1++l2,rE k1 k3,?_⟩;have e:cs.drop (i*sz)=(cs.drop (i*sz)).take sz++cs.drop ((i+1)*sz):=(by rw[Nat.succ_mul,<-List.drop_drop,List.take_append_drop]);rw[e];exact bg k2 k4
theorem oU:∀(d t:Nat) (ps:List Pt),rA C.P C.T d t=some ps->∀(fuel:Nat) (cs:List Value) (x:DataW H×List MemPlace),DataW.trod enc C.P W 0 sp held fuel t cs=some x->∃l,jI ps l∧au (zW W) l cs
 | 0,t,ps,h,_,_,_,_=>by cases h
 | d+1,t,ps,h,fuel,cs,x,hx=>by
  simp only[rA] at h;split at h;cases h;rename_i ti YD;obtain⟨dd,hu,hk⟩:=m9 YD;split at h;rename_i k hki;rw[hki] at hk;obtain rfl:=uT hk;obtain rfl:=Oi h;obtain⟨n,rfl,-,hw⟩:=DataW.trod_int hu hx;simp only[Lit.wf,I',U'] at hw;exact⟨[.v (.int k n)],⟨⟨rfl,hw⟩,trivial⟩,aN rfl rfl⟩;rename_i hki;rw[hki] at hk;obtain rfl:=xa hk;obtain rfl:=Oi h;obtain⟨b,rfl,-⟩:=DataW.trod_bool hu hx;exact⟨[.v (.bool b)],⟨trivial,trivial⟩,aN rfl rfl⟩
  ·rename_i e hki;rw[hki] at hk;obtain rfl:=FE hk;split at h
   ·rename_i ps' ei hps Yt;split at h
    ·rename_i k hb Y8 hfl;obtain rfl:=Oi h;have hpl:=Nb hb;have hes:C.P.cellsOf e=k+1:=(iP Yt).trans Y8;rcases Go.Deep.open_slice hu hx with ⟨rfl,-⟩|⟨a,len,cap,m,n,D,Pl,rfl,hba,hl,hmx,hm,-,hel⟩
     exact⟨[.rs (k+1) 0 λ_=>[]],⟨⟨rfl,F9 _,λi hi=>P' hi (F1 _)⟩,trivial⟩,aN ⟨none,0,rfl,F2 _,λi hi=>P' hi (F1 _)⟩ rfl⟩;have hlm:len<=m:=(by rw[hm];split<;>omega);have key:∀i,i<len->∃l:List SV,jI ps' l∧∃b o u,a=(⟨b,o,none⟩:Addr)∧au (zW W).zo l u∧u.length=k+1∧∀q c,u[q]? = some c->W.cell? ⟨b,o+i*(k+1)+q,none⟩=some c∧c.oneCell'=true:=by
      intro i hi;obtain⟨cs',c1,c2⟩:=hel i (by omega);rw[hes] at c1;obtain⟨q0,q1,q2⟩:=World.cells?_some c1;obtain⟨l,k1,k2⟩:=oU d e ps' hps _ _ _ c2;have hspot:∀j,j<k+1->∃c,W.cell? (({block:=a.block,off:=a.off+i*(k+1)+j,spot:=a.spot} : Addr))=some c∨a.spot=none:=by
       intro j hj;by_cases hsp:a.spot=none;exact⟨undef,.inr hsp⟩;exact⟨undef,.inr (by
        exfalso;have h0:=hel 0 (by omega);obtain⟨cs0,d1,d2⟩:=h0;rw[hes] at d1;obtain⟨-,e1,e2⟩:=World.cells?_some d1;have:=e2 0 (by omega);have e3:cs0[0]? = some (cs0[0]'(by omega)):=Xt (by omega);rw[e3] at this;simp[Addr.add,World.cell?] at this;split at this
        ·split at this;cases this;rename_i hns;apply hsp;cases hs:a.spot with
         | none=>rfl
         | some _=>rw[hs] at hns;simp at hns
        ·cases this)⟩
      have YY:a.spot=none:=by
       obtain⟨c,h1|h1⟩:=hspot 0 (by omega)
       ·cases hs:a.spot with
        | none=>rfl
        | some _=>
         rw[hs] at h1;simp[World.cell?] at h1;split at h1<;>cases h1
       exact h1
      obtain⟨b,o,s⟩:=a;obtain rfl:s=none:=YY;refine⟨l,k1,b,o,cs',rfl,k2,q1,λq c hc=>?_⟩;have hql:q<k+1:=(by rw[<-q1];exact(F3.1 hc).1);have:=q2 q hql;refine⟨?_,AG k1 hfl k2 c (Xu hc)⟩;rw[hc] at this;rw[<-this];simp only[Addr.add]
      congr 1
      split<;>split<;>simp_all [Nat.add_assoc]
     obtain⟨f,hf⟩:=Go.Deep.choose_lt key;exact⟨[.rs (k+1) len f],⟨⟨rfl,Nat.le_trans hl hmx,λi hi=>(hf i hi).1⟩,trivial⟩,aN ⟨some a,cap,rfl,hl,λi hi=>let ⟨_,b,o,u,e1,e2,e3,e4⟩:=hf i hi;⟨b,o,u,by rw[e1],e2,e3,e4⟩⟩ rfl⟩
    cases h
   cases h
  rename_i fs hki;rw[hki] at hk;obtain⟨fa,rfl,hfa⟩:=mQ hk;obtain⟨xs,m,rfl,-,hlen,hxl,hg⟩:=DataW.trod_struct hu hx;rw[iP YD] at hlen;rw[<-hfa] at h;obtain⟨l,k1,k2⟩:=Ld (λt ps hp cs x hx=>oU d t ps hp m cs x hx) hlen fa.toList 0 ps h λf hf=>(by obtain⟨i,hi,he⟩:=List.mem_iff_getElem.1 hf;have YT:i<fa.size:=(by simpa using hi);have h1:=hg i f (by rw[F' YT];simpa using O' some he);exact⟨xs[i]'(by omega),by rw[h1,Xt]⟩);exact⟨l,k1,k2⟩;rename_i n e hki;rw[hki] at hk;obtain rfl:=uU hk;split at h;rename_i ps' ei hps Yt;split at h;rename_i YB Yi;obtain rfl:=Oi h;have Yi:=Nb Yi;obtain⟨xs,m,rfl,-,hlen,hxl,hg⟩:=DataW.trod_array hu hx;rw[iP YD,<-Yi] at hlen;rw[iP Yt] at hg;obtain⟨l,k1,k2⟩:=Gg (f:=λ_=>[]) (ps:=ps') (sz:=ei.sz) (cs:=cs) (W:=W) n 0 (λj hj=>by have:=hg j hj;rw[B'];rw[Xt (by omega)] at this;exact oU d e ps' hps m _ _ this) (by rw[B'];exact hlen);exact⟨l,k1,by simpa using k2⟩;cases h;cases h;cases h;rename_i hki;rw[hki] at hk;obtain rfl:=Bg hk;obtain rfl:=Oi h;have hstr:C.P.underlying t=some .string:=hu;obtain⟨s,rfl,-,-⟩:=DataW.trod_string hstr hx;exact⟨[.v (.string s)],⟨trivial,trivial⟩,aN rfl rfl⟩;cases h;cases h
theorem Qy(h:T0 C.P C.T t=some p){v:Value}{d:DataW H}{ps:List MemPlace}{r:Reach}{b0:Nat}(hv:Value.okWide C.P W r b0 t v)(ht:DataW.Trod enc C.P W 0 sp held t v d ps):∃x,Fit p x∧den (zW W) x v:=by
 unfold T0 at h;split at h;cases h;rename_i l hl;obtain⟨fuel,hf⟩:=ht;obtain⟨y,h1,h2⟩:=oU 10 t l hl _ _ _ hf;split at h
 ·rename_i YV;obtain rfl:=Oi h;unfold T6 at YV;split at YV
  ·rename_i ti YD;obtain⟨dd,hu,hk⟩:=m9 YD;have:∃cs,v=.agg cs:=by
    cases Y7:ti.k with
    | struct fs=>
     rw[Y7] at hk;obtain⟨fa,rfl,-⟩:=mQ hk;simp only[Value.okWide,hu] at hv;exact⟨_,hv.choose_spec.1⟩
    | arr n e=>
     rw[Y7] at hk;obtain rfl:=uU hk;simp only[Value.okWide,hu] at hv;exact⟨_,hv.choose_spec.1⟩
    | _=>rw[Y7] at YV;cases YV
   obtain⟨cs,rfl⟩:=this;exact⟨.agg y,h1,cs.toList,by simpa[Value.cells] using h2,by simp⟩
  cases YV
 rename_i YV;split at h
 ·rename_i p';obtain rfl:=Oi h
  match y,h1 with
  | [x],h1=>
   obtain⟨a,b,e1,e2,e3⟩:=aF h2;obtain rfl:=bX e3;have hv1:∀cs,v≠.agg cs:=by
    intro cs hc;subst hc;have hfl:∀(d:Nat),rA C.P C.T d t=some [p']->False:=by
     intro d hd;cases d with
     | zero=>cases hd
     | succ d=>
      simp only[rA] at hd;split at hd;cases hd;rename_i ti YD;obtain⟨dd,hu,hk⟩:=m9 YD;have hag':iM ti.k=false:=(by unfold T6 at YV;rw[YD] at YV;exact YV);cases Y7:ti.k with
      | int k=>rw[Y7] at hk;obtain rfl:=uT hk;simp[Value.okWide,hu,Cell.okWide,Cell.ok] at hv
      | bool=>rw[Y7] at hk;obtain rfl:=xa hk;simp[Value.okWide,hu,Cell.okWide,Cell.ok] at hv
      | sl e=>rw[Y7] at hk;obtain rfl:=FE hk;simp[Value.okWide,hu,Cell.okWide,Cell.ok] at hv
      | prim=>rw[Y7] at hd;cases hd
      | str=>rw[Y7] at hk;obtain rfl:=Bg hk;simp[Value.okWide,hu,Cell.okWide,Cell.ok] at hv
      | mp _ _=>rw[Y7] at hd;cases hd
      | ptr=>rw[Y7] at hd;cases hd
      | struct fs=>rw[Y7] at hag';cases hag'
      | arr n e=>rw[Y7] at hag';cases hag'
    exact hfl 10 hl
   refine⟨x,h1.1,?_⟩;have:v.cells.toList=[v]:=by
    cases v<;>first|rfl|exact P' rfl (hv1 _)|skip
    all_goals simp[Value.cells]
   rw[this] at e1;obtain rfl:v=a:=(by injection e1);exact e2
 cases h
end
end
section
open Go.ChangeShapes Go.WideShapes Go.ChangeAt Go.RowKit
theorem nK{H:Type}{enc:TypeId×Value->H}{P:Program}(hl:laidOutB P=true){W W':World}(hb:Below W.heap.size W W'){sp:Nat->Bool} :
  ∀{ts:List TypeId} {vs:List Value} {ds:List (DataW H)} {ps:List MemPlace},(ts.all λt=>P.readableRec t&&decide (t<P.types.size))=true->
   DataW.TrodAll enc P W 0 (λ_=>true) true ts vs ds ps->(∀x∈ps,x.block<W.heap.size)->(∀p∈ps,sp p.block=true)->DataW.TrodAll enc P W' 0 sp true ts vs ds ps
 | [],vs,ds,ps,_,h,_,_=>by obtain⟨rfl,rfl,rfl⟩:=trodAll_nil h;exact trodAll_mk0
 | t::ts,vs,ds,ps,hr,h,X0,hs=>by
  obtain⟨v,vs',d,ds',p,q,rfl,rfl,rfl,h1,h2⟩:=trodAll_cons h;rw[List.all_cons,I',I'] at hr;exact trodAll_cons_mk (WideElems.Trod_stays hl hr.1.1 (Od hr.1.2) h1 (λx hx=>hb.same (X0 x (Xr.2 (.inl hx)))) (λx hx=>hs x (Xr.2 (.inl hx))))
   (nK hl hb hr.2 h2 (λx hx=>X0 x (Xr.2 (.inr hx))) (λx hx=>hs x (Xr.2 (.inr hx))))
theorem KC{H:Type}{enc:TypeId×Value->H}{P:Program}(hl:laidOutB P=true){f:Func}{s:ChangeSpec}{W W':World}{args:Array Value}{ds gs:List (DataW H)}{before:List MemPlace}{tb:TypeId}
  (hr:(f.params.toList.all λt=>P.readableRec t&&decide (t<P.types.size))=true) (hres:f.resultTypes=#[tb]) (htb:P.underlying tb=some .bool) (hvars:s.vars=[])
  (hfn:(s.fn H ds).results=[.lit (.bool true)]∧(s.fn H ds).args=ds∧(s.fn H ds).vars=[])
  (hW:DataW.Whole enc P f.params.toList s.vars false W args.toList ds gs before) (hg:Gr W W') :
  s.post enc P f false true false false W args (.bool true) W':=by
 have hW':=hW;obtain⟨p,q,hA,hV,rfl,hfz,hnd⟩:=hW;rw[hvars] at hV;obtain⟨rfl,rfl⟩:=trodVars_none hV;have X0:∀x∈p,x.block<W.heap.size:=λx hx=>hW'.lt x (Xr.2 (.inl hx));refine⟨ds,[],p++[],[],p,[],hW',?_,?_,?_,Below.frame hg _,λh=>by cases h⟩;rw[List.append_nil,hfn.1,hres];exact trodAll_mk1 (shut_bool htb true);rw[List.append_nil,hfn.2.1];exact nK hl hg hr hA X0 (λx hx=>by simpa using X0 x hx);rw[List.append_nil,hfn.2.2,hvars];rfl
theorem own:ownKnob Tryz.prog.godebug=none:=by kernel_rfl
theorem Ap:laidOutB Tryz.prog=true:=by kernel_rfl
end
section
open Go.ChangeShapes Go.WideShapes Go.ChangeAt Go.RowKit Go.Conc
variable {fn:Func}{f:FuncId}{pts:List Pt}{d:Nat}{PP:Program}{α:Type}{w:World}{C:Cx PP}
section
variable {H:Type}{enc:TypeId×Value->H}{W:World}{sp:Nat->Bool}{held:Bool}
theorem BD:∀{ts:List TypeId} {pts:List Pt} {vs:List Value} {ds:List (DataW H)} {ps:List MemPlace} {r:Reach} {b0:Nat},MA C.P C.T ts=some pts->(∀(j:Nat) t v,ts[j]? = some t->vs[j]? = some v->Value.okWide C.P W r b0 t v)->
  DataW.TrodAll enc C.P W 0 sp held ts vs ds ps->∃xs,jI pts xs∧au (zW W) xs vs
 | [],pts,vs,ds,ps,r,b0,h,hv,ht=>by obtain rfl:=Oi h;obtain⟨rfl,-,-⟩:=trodAll_nil ht;exact⟨[],trivial,rfl⟩
 | t::ts,pts,vs,ds,ps,r,b0,h,hv,ht=>by simp only[MA] at h;split at h;rename_i p q hp hq;obtain rfl:=Oi h;obtain⟨v,vs',d,ds',p',q',rfl,rfl,-,h1,h2⟩:=trodAll_cons ht;obtain⟨x,k1,k2⟩:=Qy hp (hv 0 t v rfl rfl) h1;obtain⟨xs,k3,k4⟩:=BD hq (λj t v h1 h2=>hv (j+1) t v h1 h2) h2;exact⟨x::xs,⟨k1,k3⟩,aN k2 k4⟩;cases h
theorem qU:∀{ts:List TypeId} {vs:List Value} {ds:List (DataW H)} {ps:List MemPlace},DataW.TrodAll enc C.P W 0 sp held ts vs ds ps->ds.length=ts.length
 | [],vs,ds,ps,h=>by obtain⟨-,rfl,-⟩:=trodAll_nil h;rfl
 | t::ts,vs,ds,ps,h=>by obtain⟨v,vs',d,ds',p',q',rfl,rfl,-,h1,h2⟩:=trodAll_cons h;simp[qU h2]
theorem CY{Γ:List (XR C)}{Fs:List (Y0 C)}{vs:List Value}(R:Rds α)(h:How)(hm:C.P.follows .mixedOrders=true)(hf:C.P.funcs[f]? = some fn)(hB:gq h.fl fn=true)(hG:C.ZQ W)(hp:R.ov=Pt.ov pts)(hx:∃xs,jI pts xs∧au (zW W) xs vs)(he:∀a:α,jI pts (R.enc a)->aJ Γ Fs d h fn (R.enc a) λv H _=>ae (.bl true) H v) :
  bj C.P C.co f vs.toArray W λe W'=>e=.returned (.bool true)∧Gr W W':=by
 obtain⟨xs,k1,k2⟩:=hx;have hd:au (zW W) (R.enc (R.dec xs)) vs:=by rw[R.ok,hp];exact bZ _ _ _ (lL _ _ k1) k2
 have Yo:jI pts (R.enc (R.dec xs)):=by rw[R.ok,hp];exact sL _ _ k1
 refine(pD h hm hf hB hG (λb i c h=>h) hd (he _ Yo)).mono ?_;rintro e W' ⟨val,z',rfl,hg,-,hv⟩;obtain rfl:val=.bool true:=hv;exact⟨rfl,hg⟩
end
def DL(w:World)(b:Nat):Prop:=∃o,w.heap[b]? = some o∧¬Obj.plain o
theorem UF(b:Nat)(h:DL w b):b<w.heap.size:=by obtain⟨o,h,-⟩:=h;exact(E'.1 h).1
theorem Jr(b:Nat)(o:Obj)(h:¬DL w b)(e:w.heap[b]? = some o):Obj.plain o:=Classical.byContradiction λhp=>h ⟨o,e,hp⟩
noncomputable def msk(w:World):World:=mask (DL w) (λ_=>False) w
theorem z6(w:World):(msk w).heap.size=w.heap.size:=by simp[msk,mask]
theorem z8{a:Addr}{c:Value}(h:w.cell? a=some c):(msk w).cell? a=some c:=by
 rw[<-h];refine G9 λ⟨o,e,hp⟩=>?_;unfold World.cell? at h;rw[e] at h;cases o with
 | cells _ _ _=>exact hp trivial
 | _=>cases h
theorem SC(W:World):(zW W).le (zW (msk W)):=⟨λ_ _ h=>(by cases h),λ_ _ h=>(by cases h),λ_ _ _ h=>(by cases h),λ_ _ _ h=>⟨z8 h.1,h.2⟩⟩
theorem Cx.ZQ.msk{W:World}(h:C.ZQ W):C.ZQ (msk W):=
 ⟨by rw[z6];exact h.1,λb sb hb=>let ⟨h0,vs,h1,h2⟩:=h.2 b sb hb;⟨h0,vs,h1,λi v hv=>z8 (h2 i v hv)⟩⟩
theorem Pp{W W' W1 w':World}{S:Nat->Prop}(hg:Gr (msk W) W')(hr:Rv W' W1)(hv:View S (λ_=>False) w' W1)(h0:∀b:Nat,DL W b->S b∧w'.heap[b]? = W.heap[b]?)(h1:∀b:Nat,S b->DL W b∨W.heap.size<=b):Gr W w':=by have sz:=z6 W;refine⟨?_,?_,?_,?_,λb hb=>?_⟩;rw[hv.os,hr.os,hg.os];rfl;rw[hv.tape,hr.tape,hg.tape];rfl;rw[hv.output,hr.output,hg.output];rfl;have h1:=hg.size;have h2:=hr.size;have h3:=hv.size;omega;by_cases hs:S b;rcases h1 b hs with h|h;exact(h0 b h).2;omega;have hn:¬DL W b:=λh=>hs (h0 b h).1;rw[hv.same b hs (λh=>h)];have e1:W'.heap[b]? = (msk W).heap[b]?:=hg.block b (by omega);have e2:(msk W).heap[b]? = W.heap[b]?:=wD hn (λh=>h);have e3:W.heap[b]? = some (W.heap[b]'hb):=F' hb;rw[hr.heap b _ (e1.trans (e2.trans e3)),e3]
section
variable {W:World}
theorem KB{Γ:List (XR C)}{Fs:List (Y0 C)}{vs:List Value}{Φ:Value->World->Prop}(R:Rds α)(h:How)(hm:C.P.follows .mixedOrders=true)(hco:C.co=true)(hi:C.P.inits.idxOf? f=none)(hf:C.P.funcs[f]? = some fn)(hB:gq h.fl fn=true)(hG:C.ZQ W)(hp:R.ov=Pt.ov pts)(hx:∃xs,jI pts xs∧au (zW W) xs vs)(he:∀a:α,jI pts (R.enc a)->aJ Γ Fs d h fn (R.enc a) λv H _=>ae (.bl true) H v)(hΦ:∀w',Gr W w'->Φ (.bool true) w') :
  ∃M last o w' t',runNT C.P (M+1) (solo (G (Frame.enter C.P f vs.toArray .normal) []) W) #[]=(.ended o w',t')∧runN C.P M (solo (G (Frame.enter C.P f vs.toArray .normal) []) W)=.next last ∧
   step C.P last=.ended o w'∧Conc.Good C.P Φ last o w' t':=by
 obtain⟨xs,k1,k2⟩:=hx;have hc:=CY (W:=msk W) R h hm hf hB hG.msk hp ⟨xs,k1,aK (SC W) _ _ k2⟩ he;rw[hco] at hc;refine xF (S0:=DL W) hi UF Jr hc ?_;rintro e W' ⟨rfl,hg⟩;exact⟨_,rfl,λW1 hr S w' hv h0 h1=>hΦ w' (Pp hg hr hv h0 h1)⟩
end
section
variable {H:Type}{enc:TypeId×Value->H}
theorem Am{a:Assume}{C:Checked}{os:Os}{s:ChangeSpec}{conds:List PathCond}{apart fresh handsOn again:Bool}{X:World->Array Value->Prop}(hX:∀(w w':World) (args:Array Value),w.heap=w'.heap->X w args->X w' args)(own:ownKnob C.prog.godebug=none)(started:os.Started)(hfn:C.prog.funcs[f]? = some fn)(witness:∃(w:World) (tape:Tape) (i:Input),w.os=os∧(w.forCall tape i).Shaped C.prog∧i.vars=[]∧Input.okWide C.prog (w.forCall tape i) .any w.heap.size f i ∧
   ((s.pre enc C.prog fn conds apart (w.forCall tape i).memory i.args∧X (w.forCall tape i).memory i.args)∧sizedMet enc C.prog fn (OpenSpec.ofChange s) apart (w.forCall tape i).memory i.args)∧a.holds C.prog (lone (Frame.enter C.prog f i.args .normal) [] (w.forCall tape i)))(runs:∀(W:World) (base:Nat) (args:Array Value) (ds gs:List (DataW H)) (before:List MemPlace),
   (∀(j:Nat) t v,fn.params[j]? = some t->args[j]? = some v->Value.okWide C.prog W .any base t v)->
   DataW.Whole enc C.prog fn.params.toList s.vars apart W args.toList ds gs before->
   conds.all (PathCond.test C.prog ⟨fn.params.toList,ds,s.plain.varTypes C.prog,gs⟩)=true->
   (DataW.weightsEach C.prog (fn.params.toList++s.plain.varTypes C.prog) (ds++gs)).all (·<=reachBytes)=true->X W args->
   a.holds C.prog (lone (Frame.enter C.prog f args .normal) [] W)->
   ∃M last o w' t',runNT C.prog (M+1) (solo (G (Frame.enter C.prog f args .normal) []) W) #[]=(.ended o w',t')∧runN C.prog M (solo (G (Frame.enter C.prog f args .normal) []) W)=.next last ∧
    step C.prog last=.ended o w'∧Conc.Good C.prog (λv W'=>s.post enc C.prog fn apart fresh handsOn again W args v W') last o w' t') :
  ReturnsInLeavingWide a C os f .any (λw args=>(s.pre enc C.prog fn conds apart w args∧X w args)∧sizedMet enc C.prog fn (OpenSpec.ofChange s) apart w args) (s.post enc C.prog fn apart fresh handsOn again):=by
 refine returnsInLeavingWide_of_good own started witness ?_;intro w tape i _ _ _ X' hpre hholds;obtain⟨_,_,_,fn',hfn',_,_,_,_,hval⟩:=X';have e:fn'=fn:=Oi (hfn'.symm.trans hfn);subst e;obtain⟨⟨⟨ds,gs,before,hw,hc⟩,hx⟩,hz⟩:=hpre;have hw':=DataW.Whole.of_heap (w':=w.forCall tape i) (by rfl) hw;obtain⟨M,last,o,w',t',h1,h2,h3,h4⟩:=runs (w.forCall tape i) w.heap.size i.args ds gs before hval hw' hc (hz.weights hw) (hX _ _ _ (by rfl) hx) hholds;exact⟨M,last,o,w',t',h1,h2,h3,h4.mono λv hp=>ChangeSpec.post_blind hp⟩
end
theorem Ho(Lk:Looks){p:Pinned}{s:OpenSpec}{c:OpenClaim}(kinds:List LaidKind)(tests:Bool)(har:Bool×String)(lk:Bool)
  (hc:c.holds p s) (hw:c.wfByText s=true) (htie:c.laidByTextAt Lk p kinds tests)
  (Ya:c.start=.entering) (hnb:c.noBlocks=false∧c.again=false) (hm:p.checked.prog.mainIs=some (har.1,har.2.toList)) (hn:(!har.1&&har.2.isEmpty&&!lk)=false)
  (hl:∀f fn,p.checked.prog.funcNamed c.func=some f->p.checked.prog.funcs[f]? = some fn->lk=p.checked.prog.looks []∧∀(j:Nat) t,fn.params[j]? = some t->p.checked.prog.wantsStandIn t=false)
  (hg:true=c.goesBy p.checked.prog) :
  Claim7.holds p (.plain s) {stood:={row:=c,standIns:=[],harness:=har,looks:=lk},kinds:=[],alts:=[],goes:=true,laidByText:=true,laidKinds:=kinds,laidTests:=tests,laidLooks:=Lk}:=by
 have h6:Claim7.isSixth {stood:={row:=c,standIns:=[],harness:=har,looks:=lk},kinds:=[]} = false:=by simpa[Claim7.isSixth] using hn
 have h1:=Claim7.tied_new_at Lk kinds tests (Claim7.new_of_sixth hc har lk Ya hnb hm h6 hl) hw;unfold Claim7.holds;refine Ai h1 (Ai ?_ (Ai htie (Ai ?_ hg)));intro D hD;cases hD;intro h;cases h
end
section
open Go.ChangeShapes Go.WideShapes Go.ChangeAt Go.RowKit
def yq(rec:DataW Unit->Option (List Value)):List (DataW Unit)->Option (List Value)
 | []=>some []
 | d::r=>match rec d,yq rec r with|some a,some b=>some (a++b)|_,_=>none
def uB(rec:Nat->DataW Unit->Option (List Value))(T:List (Nat×TI))(total:Nat):Nat->List (Nat×Nat)->List (DataW Unit)->Option (List Value)
 | off,[],l=>match l,Nat.beq off total with|[],true=>some []|_,_=>none
 | off,(o,t)::r,l=>match l with
  | []=>none
  | d::ds=>match Nat.beq o off,rec t d,look T t with
   | true,some a,some ti=>match uB rec T total (off+ti.sz) r ds with|some b=>some (a++b)|none=>none
   | _,_,_=>none
def AE(T:List (Nat×TI)):Nat->Nat->DataW Unit->Option (List Value)
 | 0,_,_=>none
 | D+1,t,d=>match look T t with
  | none=>none
  | some ti=>match ti.k,d with
   | .int _,.lit (.int k n)=>some [.int k n]
   | .arr n e,.agg l=>match look T e with
    | some ei=>match Nat.beq (n*ei.sz) ti.sz with|true=>yq (AE T D e) l|false=>none
    | none=>none
   | .struct fs,.agg l=>uB (AE T D) T ti.sz 0 fs l
   | _,_=>none
section
variable {PP:Program}{C:Cx PP}{W:World}{sp:Nat->Bool}{held:Bool}
theorem AD{rec:DataW Unit->Option (List Value)}{sz:Nat}{cs:List Value} : ∀{l:List (DataW Unit)} {vs:List Value} {i:Nat},yq rec l=some vs->(∀j d,l[j]? = some d->∀a,rec d=some a->(cs.drop ((i+j)*sz)).take sz=a)->cs.length=(i+l.length)*sz->cs.drop (i*sz)=vs
 | [],vs,i,h,_,hl=>by obtain rfl:=Oi h;rw[List.drop_of_length_le (by rw[hl];simp)]
 | d::r,vs,i,h,hk,hl=>by
  simp only[yq] at h;split at h
  ·rename_i a b ha hb;obtain rfl:=Oi h;have h1:=hk 0 d rfl a ha;rw[Nat.add_zero] at h1;have h2:=AD (i:=i+1) hb (λj d' hj a' ha'=>by
    have:=hk (j+1) d' hj a' ha'
    rwa [show i+(j+1)=i+1+j by omega] at this) (by rw[hl];simp only[List.length_cons];congr 1;omega)
   rw[<-h1,<-h2,Nat.succ_mul,<-List.drop_drop,List.take_append_drop]
  cases h
theorem Fl{rec:Nat->DataW Unit->Option (List Value)}{total:Nat}{cs:List Value}(Z5:cs.length=total):∀{fs:List (Nat×Nat)} {l:List (DataW Unit)} {vs:List Value} {off:Nat},uB rec C.T total off fs l=some vs->
  (∀(j:Nat) (f:Nat×Nat) (d:DataW Unit),fs[j]? = some f->l[j]? = some d->∀a,rec f.2 d=some a->(cs.drop f.1).take (C.P.cellsOf f.2)=a)->cs.drop off=vs
 | [],l,vs,off,h,hk=>by simp only[uB] at h;split at h;rename_i hb;obtain rfl:=Oi h;have:=Nb hb;rw[List.drop_of_length_le (by omega)];cases h
 | (o,t)::r,l,vs,off,h,hk=>by simp only[uB] at h;split at h;cases h;rename_i d ds;split at h;rename_i a ti hb ha YD;split at h;rename_i b Y3;obtain rfl:=Oi h;obtain rfl:=Nb hb;have h1:=hk 0 (o,t) d rfl rfl a ha;rw[iP YD] at h1;have h2:=Fl Z5 (off:=o+ti.sz) Y3 (λj f d' hf hd=>hk (j+1) f d' hf hd);rw[<-h1,<-h2,<-List.drop_drop,List.take_append_drop];cases h;cases h
theorem pR:∀(D t:Nat) (d:DataW Unit) (vs:List Value),AE C.T D t d=some vs->∀(fuel:Nat) (cs:List Value) (p:List MemPlace),DataW.trod (λ_=>()) C.P W 0 sp held fuel t cs=some (d,p)->cs=vs
 | 0,t,d,vs,h,_,_,_,_=>by cases h
 | D+1,t,d,vs,h,fuel,cs,p,hx=>by
  simp only[AE] at h;split at h;cases h;rename_i ti YD;obtain⟨dd,hu,hk⟩:=m9 YD;split at h;rename_i k0 k n hki;rw[hki] at hk;obtain rfl:=uT hk;obtain rfl:=Oi h;obtain⟨m,c1,c2,-⟩:=DataW.trod_int hu hx;have e:=O' Prod.fst c2;simp only[DataW.lit.injEq,Lit.int.injEq] at e;obtain⟨rfl,rfl⟩:=e;exact c1
  ·rename_i n e l hki;rw[hki] at hk;obtain rfl:=uU hk;obtain⟨xs,m,-,hxe,hlen,hxl,hel⟩:=DataW.trod_array hu hx;have e1:=O' Prod.fst hxe;simp only[DataW.agg.injEq] at e1;subst e1;split at h
   ·rename_i ei Yt;split at h
    ·rename_i hb;have hb:=Nb hb;rw[iP YD,<-hb] at hlen;rw[iP Yt] at hel;have:=AD (sz:=ei.sz) (cs:=cs) (i:=0) h (λj d' hj a ha=>by
      rw[List.getElem?_map] at hj;cases hxj:xs[j]? with
      | none=>rw[hxj] at hj;cases hj
      | some y=>
       rw[hxj] at hj;have hj:y.1=d':=Oi hj;have hjn:j<n:=(by rw[<-hxl];exact(F3.1 hxj).1);have h1:=hel j hjn;rw[hxj] at h1;rw[B'];exact pR D e y.1 a (by rw[hj];exact ha) m _ y.2 h1) (by rw[hlen];simp[hxl])
     simpa using this
    cases h
   cases h
  ·rename_i fs l hki;rw[hki] at hk;obtain⟨fa,rfl,hfa⟩:=mQ hk;obtain⟨xs,m,-,hxe,hlen,hxl,hg⟩:=DataW.trod_struct hu hx;have e1:=O' Prod.fst hxe;simp only[DataW.agg.injEq] at e1;subst e1;rw[iP YD] at hlen;have:=Fl (C:=C) hlen h (λj f d' hf hj a ha=>by
    rw[List.getElem?_map] at hj;cases hxj:xs[j]? with
    | none=>rw[hxj] at hj;cases hj
    | some y=>
     rw[hxj] at hj;have hj:y.1=d':=Oi hj;rw[<-hfa,List.getElem?_map] at hf;cases hfj:fa.toList[j]? with
     | none=>rw[hfj] at hf;cases hf
     | some ff=>
      rw[hfj] at hf;obtain rfl:(ff.offset,ff.type)=f:=Oi hf;have h1:=hg j ff (by rw[<-Array.getElem?_toList];exact hfj);rw[hxj] at h1;exact pR D ff.type y.1 a (by rw[hj];exact ha) m _ y.2 h1)
   simpa using this
  cases h
theorem E0:∀{l:List (String×DataW Unit)} {ps:List MemPlace} {n:String} {d:DataW Unit},DataW.LaidVars C.P W l ps->(n,d)∈l->∃g t cs fuel p,C.P.globalNamed n=some g∧(C.P.globals[g]?).map (·.type)=some t∧W.var? C.P n=some cs∧DataW.trod (λ_=>()) C.P W 0 (λ_=>true) false fuel t cs.toList=some (d,p)
 | [],ps,n,d,h,hm=>by cases hm
 | (n',d')::r,ps,n,d,h,hm=>by obtain⟨g,t,cs,fuel,p,q,e1,e2,e3,e4,hr,-⟩:=h;rcases Xq.1 hm with hm|hm;obtain⟨rfl,rfl⟩:=F7 hm;exact⟨g,t,cs,fuel,p,e1,e2,e3,e4⟩;exact E0 hr hm
theorem CZ{l:List (String×DataW Unit)}{n:String}{d:DataW Unit}{g t:Nat}{vs:List Value}(h:laidMetH C.P l W)(hm:(n,d)∈l)(hd:d.handleName?.isNone=true)(hg:C.P.globalNamed n=some g)(ht:(C.P.globals[g]?).map (·.type)=some t)(hv:AE C.T 6 t d=some vs) :
  ∀(i:Nat) (v:Value),vs[i]? = some v->W.cell? ⟨g,i,none⟩=some v:=by
 obtain⟨ps,hV,-⟩:=(laidMetH_iff.1 h).1;obtain⟨g',t',cs,fuel,p,e1,e2,e3,e4⟩:=E0 (C:=C) hV (List.mem_filter.2 ⟨hm,hd⟩);rw[hg] at e1;obtain rfl:=Oi e1;rw[ht] at e2;obtain rfl:=Oi e2;intro i v hi;rw[World.var?_cell hg e3 i];have:=pR 6 t d vs hv fuel cs.toList p e4;rw[<-this] at hi;simpa using hi
end
def qh:List (String×DataW Unit):=[("marches/shape.rooms",Rows.laid_marches_shape_rooms),("marches/store.ranges",Rows.laid_marches_store_ranges)]
theorem LK(os:Os)(args:Array Value):laidMetH Tryz.prog qh ((World.doorLaid Tryz.prog 281 os).forCall (λ_ _=>0) ⟨#[],args,[]⟩).memory:=
 laidMetH_of_parts3 (fuel:=8) (laidMet_of_run' 8 (by kernel_rfl) (by kernel_rfl)) (by kernel_rfl) (by kernel_rfl)
def EA:List Int:=[0,0,0,0,0,0,0,0,-1048576,1048576,-1048576,1048576,0,0,0,0,-4096,4096,-4096,4096,0,0,0,0,1,16384,1,16384,0,1,0,1,1,8,0,0,0,0,0,0,0,510,0,0,0,0,0,0,0,15,0,0,0,0,0,0,-2147483648,2147483647,-2147483648,2147483647,-2147483648,2147483647,-2147483648,2147483647,0,1048576,0,1048576,0,0,0,0,0,2147483647,0,2147483647,0,2147483647,0,2147483647,-2147483648,2147483647,-2147483648,2147483647,-2147483648,2147483647,-2147483648,2147483647]
def RE(w:World):Prop:=
 w.cell? ⟨1,0,none⟩=some (.func (.func 264) #[] #[])∧w.cell? ⟨1,1,none⟩=some (.func (.func 265) #[] #[]) ∧
 w.cell? ⟨1,2,none⟩=some (.func (.func 266) #[] #[])∧w.cell? ⟨1,3,none⟩=some (.func (.func 267) #[] #[])
theorem Bz:Tryz.prog.cellsOf 326=2:=by kernel_rfl
theorem yM:Tryz.prog.cellsOf 325=1:=by kernel_rfl
set_option maxRecDepth 100000 in
theorem vH{W:World}(h:laidMetH Tryz.prog qh W):RE W:=by
 obtain⟨g,t,cs,fuel,p,hg,ht,hv,hd⟩:=h.funcs (n:= "marches/shape.rooms") (J' ..);obtain rfl:=Oi ((show Tryz.prog.globalNamed "marches/shape.rooms" = some 1 by kernel_rfl).symm.trans hg);obtain rfl:=Oi ((show (Tryz.prog.globals[1]?).map (·.type)=some 327 by kernel_rfl).symm.trans ht);have hd':DataW.trod (funcToken Tryz.prog) Tryz.prog W 0 (λ_=>true) true fuel 327 cs.toList=some (.agg [.agg [.held [109,97,114,99,104,101,115,47,115,104,97,112,101,46,98,111,120,101,115],.held [109,97,114,99,104,101,115,47,115,104,97,112,101,46,98,111,120,67,105,114,99,108,101]],.agg [.held [109,97,114,99,104,101,115,47,115,104,97,112,101,46,99,105,114,99,108,101,66,111,120],.held [109,97,114,99,104,101,115,47,115,104,97,112,101,46,99,105,114,99,108,101,115]]],p):=hd;obtain⟨xs,m,_,hx,hlen,hxl,hel⟩:=DataW.trod_array Tryz.underlying327 hd';have Yr:=λk=>World.var?_cell hg hv k;obtain⟨l⟩:=cs;have hl4:l.length=4:=hlen.trans (by kernel_rfl)
 match l,hl4,xs,hxl with
 | [c0,c1,c2,c3],_,[y0,y1],_=>
  have e0:=hel 0 (by decide);have e1:=hel 1 (by decide);simp[Bz] at e0 e1;simp only[List.map_cons,List.map_nil,Prod.mk.injEq,DataW.agg.injEq,List.cons.injEq,and_true] at hx;obtain⟨xs0,m0,_,hx0,_,hxl0,hel0⟩:=DataW.trod_array Tryz.underlying326 e0;obtain⟨xs1,m1,_,hx1,_,hxl1,hel1⟩:=DataW.trod_array Tryz.underlying326 e1
  match xs0,hxl0,xs1,hxl1 with
  | [z0,z1],_,[z2,z3],_=>
   have f0:=hel0 0 (by decide);have f1:=hel0 1 (by decide);have f2:=hel1 0 (by decide);have f3:=hel1 1 (by decide);simp[yM] at f0 f1 f2 f3;obtain⟨⟨q0,q1⟩,-⟩:=hx;rw[hx0] at q0;rw[hx1] at q1;simp only[List.map_cons,List.map_nil,DataW.agg.injEq,List.cons.injEq,and_true] at q0 q1;obtain⟨a0,a1⟩:=q0;obtain⟨a2,a3⟩:=q1;obtain⟨d0,b0⟩:=z0;obtain⟨d1,b1⟩:=z1;obtain⟨d2,b2⟩:=z2;obtain⟨d3,b3⟩:=z3;subst a0 a1 a2 a3;obtain rfl:=func_of_trod (f0:=264) Tryz.underlying325 (by kernel_rfl) f0;obtain rfl:=func_of_trod (f0:=265) Tryz.underlying325 (by kernel_rfl) f1;obtain rfl:=func_of_trod (f0:=266) Tryz.underlying325 (by kernel_rfl) f2;obtain rfl:=func_of_trod (f0:=267) Tryz.underlying325 (by kernel_rfl) f3;exact⟨Yr 0,Yr 1,Yr 2,Yr 3⟩
def Jz:List Value:=[.func (.func 264) #[] #[],.func (.func 265) #[] #[],.func (.func 266) #[] #[],.func (.func 267) #[] #[]]
theorem Ax{W:World}(h:laidMetH Tryz.prog qh W):cx.par.ZQ W:=by
 have h0:=CZ (C:=cx) (n:= "marches/store.ranges") (g:=0) (t:=157) (vs:=EA.map (Value.int .i64)) h (Xm _ (J' ..)) rfl (by kernel_rfl) (by kernel_rfl) (by kernel_rfl);have h1:RE W:=vH h;refine⟨fU h1.1,λb sb hb=>?_⟩;have hb:look ground b=some sb:=hb;by_cases e:0=b
 ·subst e;obtain rfl:=Oi ((show look ground 0=some _ from rfl).symm.trans hb);refine⟨(by decide:0<1+1),EA.map (Value.int .i64),?_,λi v hv=>h0 i v hv⟩;repeat' (first|exact rfl|(refine aN ?_ ?_))
 by_cases e2:1=b
 ·subst e2;obtain rfl:=Oi ((show look ground 1=some _ from rfl).symm.trans hb);refine⟨(by decide:1<1+1),Jz,?_,λi v hv=>?_⟩
  ·repeat' (first|exact rfl|(refine aN ?_ ?_))
  ·match i,hv with
   | 0,hv=>obtain rfl:=Oi hv;exact h1.1
   | 1,hv=>obtain rfl:=Oi hv;exact h1.2.1
   | 2,hv=>obtain rfl:=Oi hv;exact h1.2.2.1
   | 3,hv=>obtain rfl:=Oi hv;exact h1.2.2.2
   | n+4,hv=>exact P' hv (by simp[Jz])
 unfold ground at hb;rw[ah _ _ e,ah _ _ e2] at hb;cases hb
def ptC:List Pt:=[.int .u8,.int .i64,.int .i64,.int .i64,.int .i64]
def ptE:List Pt:=[.int .i64,.sl 5 ptC]
def UR:List Pt:=[.any,.int .u32,.int .u32,.int .i64]
def US:List Pt:=[.sl 2 [.int .u8,.int .i64],.int .i64,.int .u32,.int .u32]
def Q7:List Pt:=[.int .i64,.int .i64,.int .i64,.int .i64,.int .i64,.sl 2 ptE,.sl 4 UR,.sl 4 US,.int .u64,.int .i64,.sl 3 [.int .i64,.int .i64,.int .i64],.int .i64,.int .i64]
theorem FV{l:Zp}(h:Fit (.sl 5 ptC) l.sv):l.Sm:=by obtain⟨-,h1,h2⟩:=h;simp only[maxLen] at h1;refine⟨?_,λi hi=>?_⟩;show (l.n:Int)<=9223372036854775807;omega;have h:0<=(l.c i).kind∧(l.c i).kind<=255:=(h2 i hi).1.2;exact h
theorem PG{l:ZJ}(h:Fit (.sl 2 ptE) l.sv):l.Sm:=by obtain⟨-,h1,h2⟩:=h;simp only[maxLen] at h1;refine⟨?_,λi hi=>?_⟩;show (l.n:Int)<=9223372036854775807;omega;exact FV (h2 i hi).2.1
theorem sE{n:Nat}(h:n<=maxLen):(n:Int)<=cp:=by simp only[maxLen] at h;show (n:Int)<=9223372036854775807;omega
theorem Ns{z:X2}(h:jI Q7 z.cells):z.Sm:=by obtain⟨-,-,-,-,-,h1,⟨-,h2,h6⟩,⟨-,h3,h4⟩,-,-,⟨-,h5,-⟩,-⟩:=h;refine⟨PG h1,sE h2,sE h3,λi hi=>sE (h4 i hi).1.2.1,sE h5,λi hi=>trivial⟩
end
end Go.Proofs.YtmdpdknpapjchaaGreatDoor
