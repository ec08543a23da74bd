/- A symbolic executor with lists, 20. -/
import Derived.Test.YtgigkennhdolpaaGreatDoorM16
import Derived.ProofKit
import Derived.OpenShut
import Derived.Deep.Slices
import Derived.Test.YtgigkennhdolpaaGreatDoorRows
import Derived.Test.YtgigkennhdolpaaGreatDoorM0
import Derived.LaidMore
import Derived.LaidOnce
import Derived.Stop.Joined
import Derived.Test.YtgigkennhdolpaaGreatDoorM46
import Derived.LaidHandle
import Derived.LaidSub
import Derived.Conc.LeavingOf
import Derived.SevenTiedAt
namespace Go.Proofs.YtgigkennhdolpaaGreatDoor
open Go.ChangeShapes Go.WideShapes Go.RowKit
inductive Pt where
 | int (k:IntKind)
 | bool
 | any
 | sl (sz:Nat) (e:List Pt)
 | agg (l:List Pt)
mutual
def Fit:Pt->SV->Prop
 | .int k,x=>match x with|.v (.int k' n)=>k'=k∧k.min<=n∧n<=k.max|_=>False
 | .bool,x=>match x with|.v (.bool _)=>True|_=>False
 | .any,x=>match x with|.v (.string _)=>True|_=>False
 | .sl sz ps,x=>match x with|.rs U9 n f=>U9=sz∧n<=maxLen∧∀i,i<n->iY ps (f i)|_=>False
 | .agg ps,x=>match x with|.agg l=>iY ps l|_=>False
def iY:List Pt->List SV->Prop
 | [],x=>match x with|[]=>True|_::_=>False
 | p::r,x=>match x with|[]=>False|y::s=>Fit p y∧iY r s
end
mutual
def Pt.pat:Pt->SV
 | .int k=>.v (.int k 0)
 | .bool=>.v (.bool false)
 | .any=>.v (.string ⟨#[]⟩)
 | .sl sz ps=>.rs sz 0 λ_=>Pt.nA ps
 | .agg ps=>.agg (Pt.nA ps)
def Pt.nA:List Pt->List SV
 | []=>[]
 | p::r=>p.pat::Pt.nA r
end
mutual
theorem E8:∀(p:Pt) (x:SV),Fit p x->alike p.pat x
 | .int k,x,h=>by unfold Fit at h;split at h;exact h.1;exact h.elim
 | .bool,x,h=>by unfold Fit at h;split at h;exact trivial;exact h.elim
 | .any,x,h=>by unfold Fit at h;split at h;exact trivial;exact h.elim
 | .sl sz ps,x,h=>by unfold Fit at h;split at h;exact⟨h.1,λi hi=>kP ps _ (h.2.2 i hi)⟩;exact h.elim
 | .agg ps,x,h=>by unfold Fit at h;split at h;exact kP ps _ h;exact h.elim
theorem kP:∀(p:List Pt) (x:List SV),iY p x->eV (Pt.nA p) x
 | [],x,h=>by
  cases x with
  | nil=>trivial
  | cons _ _=>exact h.elim
 | p::r,x,h=>by
  cases x with
  | nil=>exact h.elim
  | cons y s=>exact⟨E8 p y h.1,kP r s h.2⟩
end
mutual
theorem Qj:∀(p:Pt) (x:SV),Fit p x->Fit p (jn false p.pat x)
 | .int k,x,h=>by unfold Fit at h;split at h;exact⟨rfl,h.2⟩;exact h.elim
 | .bool,x,h=>by unfold Fit at h;split at h;exact trivial;exact h.elim
 | .any,x,h=>by unfold Fit at h;split at h;exact trivial;exact h.elim
 | .sl sz ps,x,h=>by unfold Fit at h;split at h;exact⟨rfl,h.2.1,λi hi=>rh ps _ (h.2.2 i hi)⟩;exact h.elim
 | .agg ps,x,h=>by unfold Fit at h;split at h;exact rh ps _ h;exact h.elim
theorem rh:∀(p:List Pt) (x:List SV),iY p x->iY p (ZF false (Pt.nA p) x)
 | [],x,h=>trivial
 | p::r,x,h=>by
  cases x with
  | nil=>exact h.elim
  | cons y s=>exact⟨Qj p y h.1,rh r s h.2⟩
end
theorem Mw{ρ:Names}{p:Pt}{x:SV}{v:Value}(h:Fit p x)(hp:∀l,p≠.agg l)(hd:den ρ x v):v.oneCell'=true:=by
 cases p with
 | int k=>
  unfold Fit at h;split at h;obtain rfl:v=_:=hd;rfl;exact h.elim
 | bool=>
  unfold Fit at h;split at h;obtain rfl:v=_:=hd;rfl;exact h.elim
 | any=>
  unfold Fit at h;split at h;obtain rfl:v=_:=hd;rfl;exact h.elim
 | sl sz ps=>
  unfold Fit at h;split at h;obtain⟨a,cap,rfl,-⟩:=hd;rfl;exact h.elim
 | agg l=>exact Up rfl (hp l)
def Bt:Pt->Bool
 | .agg _=>false
 | _=>true
theorem yW{ρ:Names} : ∀{p:List Pt} {x:List SV} {vs:List Value},iY p x->p.all Bt=true->aj ρ x vs->∀c∈vs,c.oneCell'=true
 | [],x,vs,h,_,hd,c,hc=>by
  cases x with
  | nil=>rw[cd hd] at hc;cases hc
  | cons _ _=>exact h.elim
 | p::r,x,vs,h,hp,hd,c,hc=>by
  cases x with
  | nil=>exact h.elim
  | cons y s=>
   obtain⟨a,b,rfl,h1,h2⟩:=aJ hd;rw[List.all_cons,Uk] at hp;rcases UB.1 hc with rfl|hc;exact Mw h.1 (λl e=>by rw[e] at hp;exact Up hp.1 (by simp[Bt])) h1;exact yW h.2 hp.2 h2 c hc
theorem qm{p q:List Pt}{x y:List SV}(h:iY p x)(k:iY q y):iY (p++q) (x++y):=by
 induction p generalizing x with
 | nil=>
  cases x with
  | nil=>exact k
  | cons _ _=>exact h.elim
 | cons a r ih=>
  cases x with
  | nil=>exact h.elim
  | cons b s=>exact⟨h.1,ih h.2⟩
def sP(rec:Nat->Option (List Pt))(T:List (Nat×TI))(total:Nat):Nat->List (Nat×Nat)->Option (List Pt)
 | off,[]=>match Nat.beq off total with|true=>some []|false=>none
 | off,(o,t)::r=>match Nat.beq o off,rec t,look T t with
  | true,some ps,some ti=>match Nat.beq ps.length ti.sz,sP rec T total (off+ti.sz) r with
   | true,some qs=>some (ps++qs)
   | _,_=>none
  | _,_,_=>none
def Pj:Nat->List Pt->List Pt
 | 0,_=>[]
 | n+1,l=>l++Pj n l
def qj(P:Program)(T:List (Nat×TI)):Nat->Nat->Option (List Pt)
 | 0,_=>none
 | d+1,t=>match look T t with
  | none=>none
  | some ti=>match ti.k with
   | .int k=>some [.int k]
   | .bool=>some [.bool]
   | .sl e=>match qj P T d e,look T e with
    | some ps,some ei=>match Nat.beq ps.length ei.sz,ei.sz,ps.all Bt with
     | true,k+1,true=>some [.sl (k+1) ps]
     | _,_,_=>none
    | _,_=>none
   | .struct fs=>sP (qj P T d) T ti.sz 0 fs
   | .arr n e=>match qj P T d e,look T e with
    | some ps,some ei=>match Nat.beq ps.length ei.sz,Nat.beq (n*ei.sz) ti.sz with
     | true,true=>some (Pj n ps)
     | _,_=>none
    | _,_=>none
   | .prim=>none
   | .str=>some [.any]
   | .mp _ _=>none
   | .ptr=>none
def QY(T:List (Nat×TI))(t:Nat):Bool:=match look T t with|some ti=>gY ti.k|none=>false
def QT(P:Program)(T:List (Nat×TI))(t:Nat):Option Pt:=match qj P T 10 t with
 | none=>none
 | some ps=>match QY T t with
  | true=>some (.agg ps)
  | false=>match ps with|[p]=>some p|_=>none
def Kd(P:Program)(T:List (Nat×TI)):List Nat->Option (List Pt)
 | []=>some []
 | t::r=>match QT P T t,Kd P T r with|some p,some q=>some (p::q)|_,_=>none
section
variable {PP:Program}{C:Cx PP}{H:Type}{enc:TypeId×Value->H}{W:World}{sp:Nat->Bool}{held:Bool}
theorem g9{t:Nat}{ti:TI}(h:look C.T t=some ti):C.P.cellsOf t=ti.sz:=by obtain⟨i,d,z,h1,h2,h3,-⟩:=(C.ty h).ex;simp[Program.cellsOf,h1,h3]
theorem ml{t:Nat}{ti:TI}(h:look C.T t=some ti):∃d,C.P.underlying t=some d∧aR d ti.k=true:=by obtain⟨i,d,z,h1,h2,h3,h4,h5,h6,-⟩:=(C.ty h).ex;exact⟨d,h2,h6⟩
theorem th{d:TypeDesc}{k:IntKind}(h:aR d (.int k)=true):d=.int k:=by
 cases d with
 | int k'=>obtain rfl:k'=k:=Od h;rfl
 | _=>first|cases h|(simp[aR] at h)
theorem zt{d:TypeDesc}(h:aR d .str=true):d=.string:=by
 cases d with
 | string=>rfl
 | _=>first|cases h|(simp[aR] at h)
theorem vg{d:TypeDesc}(h:aR d .bool=true):d=.bool:=by
 cases d with
 | bool=>rfl
 | _=>first|cases h|(simp[aR] at h)
theorem DC{d:TypeDesc}{e:Nat}(h:aR d (.sl e)=true):d=.slice e:=by
 cases d with
 | slice e'=>obtain rfl:e'=e:=eq_of_beq h;rfl
 | _=>first|cases h|(simp[aR] at h)
theorem lY{d:TypeDesc}{l:List (Nat×Nat)}(h:aR d (.struct l)=true):∃fs,d=.struct fs∧(fs.toList.map λf=>(f.offset,f.type))=l:=by
 cases d with
 | struct fs=>exact⟨fs,rfl,eq_of_beq h⟩
 | _=>first|cases h|(simp[aR] at h)
theorem tj{d:TypeDesc}{n e:Nat}(h:aR d (.arr n e)=true):d=.array n e:=by
 cases d with
 | array n' e'=>
  simp only[aR,Uk,beq_iff_eq] at h;rw[h.1,h.2]
 | _=>first|cases h|(simp[aR] at h)
theorem I2{rec:Nat->Option (List Pt)}{m total:Nat}(VW:∀t ps,rec t=some ps->∀cs (x:DataW H×List MemPlace),DataW.trod enc C.P W 0 sp held m t cs=some x->∃l,iY ps l∧aj (zW W) l cs){cs:List Value}(Xm:cs.length=total) :
  ∀(fs:List Field) (off:Nat) (ps:List Pt),sP rec C.T total off (fs.map λf=>(f.offset,f.type))=some ps->(∀f∈fs,∃x:DataW H×List MemPlace,DataW.trod enc C.P W 0 sp held m f.type ((cs.drop f.offset).take (C.P.cellsOf f.type))=some x)->
   ∃l,iY ps l∧aj (zW W) l (cs.drop off)
 | [],off,ps,h,_=>by simp only[List.map_nil,sP] at h;split at h;rename_i hb;obtain rfl:=Oi h;have:=Nb hb;exact⟨[],trivial,by rw[List.drop_of_length_le (by omega)];rfl⟩;cases h
 | f::r,off,ps,h,hf=>by simp only[List.map_cons,sP] at h;split at h;rename_i p ti hb hp Vz;split at h;rename_i q Vi hq;obtain rfl:=Oi h;obtain rfl:=Nb hb;have hpl:=Nb Vi;obtain⟨x,hx⟩:=hf f Um;rw[g9 Vz] at hx;obtain⟨l1,k1,k2⟩:=VW _ _ hp _ _ hx;obtain⟨l2,k3,k4⟩:=I2 VW Xm r _ _ hq λg hg=>hf g (Ux _ hg);refine⟨l1++l2,qm k1 k3,?_⟩;have e:cs.drop f.offset=(cs.drop f.offset).take ti.sz++cs.drop (f.offset+ti.sz):=(by rw[<-List.drop_drop,List.take_append_drop]);rw[e];exact aZ k2 k4;cases h;cases h
theorem D9{ps:List Pt}{sz:Nat}{cs:List Value}{f:Nat->List Value} : ∀(n i:Nat),(∀j,j<n->∃l,iY ps l∧aj (zW W) l ((cs.drop ((i+j)*sz)).take sz))->cs.length=(i+n)*sz->∃l,iY (Pj n ps) l∧aj (zW W) l (cs.drop (i*sz))
 | 0,i,_,hl=>⟨[],trivial,by rw[List.drop_of_length_le (by rw[hl];simp)];rfl⟩
 | n+1,i,h,hl=>by obtain⟨l1,k1,k2⟩:=h 0 (by omega);obtain⟨l2,k3,k4⟩:=D9 (f:=f) n (i+1) (λj hj=>by have:=h (j+1) (by omega);rwa [show i+(j+1)=i+1+j by omega] at this) (by rw[hl];congr 1;omega);refine⟨l1++l2,qm k1 k3,?_⟩;have e:cs.drop (i*sz)=(cs.drop (i*sz)).take sz++cs.drop ((i+1)*sz):=(by rw[Nat.succ_mul,<-List.drop_drop,List.take_append_drop]);rw[e];exact aZ k2 k4
theorem nY:∀(d t:Nat) (ps:List Pt),qj C.P C.T d t=some ps->∀(fuel:Nat) (cs:List Value) (x:DataW H×List MemPlace),DataW.trod enc C.P W 0 sp held fuel t cs=some x->∃l,iY ps l∧aj (zW W) l cs
 | 0,t,ps,h,_,_,_,_=>by cases h
 | d+1,t,ps,h,fuel,cs,x,hx=>by
  simp only[qj] at h;split at h;cases h;rename_i ti Vz;obtain⟨dd,hu,hk⟩:=ml Vz;split at h;rename_i k XR;rw[XR] at hk;obtain rfl:=th hk;obtain rfl:=Oi h;obtain⟨n,rfl,-,hw⟩:=DataW.trod_int hu hx;simp only[Lit.wf,Uk,Uq] at hw;exact⟨[.v (.int k n)],⟨⟨rfl,hw⟩,trivial⟩,aG rfl rfl⟩;rename_i XR;rw[XR] at hk;obtain rfl:=vg hk;obtain rfl:=Oi h;obtain⟨b,rfl,-⟩:=DataW.trod_bool hu hx;exact⟨[.v (.bool b)],⟨trivial,trivial⟩,aG rfl rfl⟩
  ·rename_i e XR;rw[XR] at hk;obtain rfl:=DC hk;split at h
   ·rename_i ps' ei Yx Vw;split at h
    ·rename_i k hb Xc Yq;obtain rfl:=Oi h;have hpl:=Nb hb;have hes:C.P.cellsOf e=k+1:=(g9 Vw).trans Xc;rcases Go.Deep.open_slice hu hx with ⟨rfl,-⟩|⟨a,len,cap,m,n,D,Pl,rfl,hba,hl,Zt,hm,-,YQ⟩
     exact⟨[.rs (k+1) 0 λ_=>[]],⟨⟨rfl,Ui _,λi hi=>Up hi (F' _)⟩,trivial⟩,aG ⟨none,0,rfl,I' _,λi hi=>Up hi (F' _)⟩ rfl⟩;have hlm:len<=m:=(by rw[hm];split<;>omega);have key:∀i,i<len->∃l:List SV,iY ps' l∧∃b o u,a=(⟨b,o,none⟩:Addr)∧aj (zW W).zo l u∧u.length=k+1∧∀q c,u[q]? = some c->W.cell? ⟨b,o+i*(k+1)+q,none⟩=some c∧c.oneCell'=true:=by
      intro i hi;obtain⟨X',c1,c2⟩:=YQ i (by omega);rw[hes] at c1;obtain⟨q0,q1,q2⟩:=World.cells?_some c1;obtain⟨l,k1,k2⟩:=nY d e ps' Yx _ _ _ c2;have hspot:∀j,j<k+1->∃c,W.cell? (({block:=a.block,off:=a.off+i*(k+1)+j,spot:=a.spot} : Addr))=some c∨a.spot=none:=by
       intro j hj;by_cases hsp:a.spot=none;exact⟨undef,.inr hsp⟩;exact⟨undef,.inr (by
        exfalso;have h0:=YQ 0 (by omega);obtain⟨cs0,d1,d2⟩:=h0;rw[hes] at d1;obtain⟨-,e1,e2⟩:=World.cells?_some d1;have:=e2 0 (by omega);have e3:cs0[0]? = some (cs0[0]'(by omega)):=UE (by omega);rw[e3] at this;simp[Addr.add,World.cell?] at this;split at this
        ·split at this;cases this;rename_i hns;apply hsp;cases hs:a.spot with
         | none=>rfl
         | some _=>rw[hs] at hns;simp at hns
        ·cases this)⟩
      have V0:a.spot=none:=by
       obtain⟨c,h1|h1⟩:=hspot 0 (by omega)
       ·cases hs:a.spot with
        | none=>rfl
        | some _=>
         rw[hs] at h1;simp[World.cell?] at h1;split at h1<;>cases h1
       exact h1
      obtain⟨b,o,s⟩:=a;obtain rfl:s=none:=V0;refine⟨l,k1,b,o,X',rfl,k2,q1,λq c hc=>?_⟩;have hql:q<k+1:=(by rw[<-q1];exact(J'.1 hc).1);have:=q2 q hql;refine⟨?_,yW k1 Yq k2 c (UF hc)⟩;rw[hc] at this;rw[<-this];simp only[Addr.add]
      congr 1
      split<;>split<;>simp_all [Nat.add_assoc]
     obtain⟨f,hf⟩:=Go.Deep.choose_lt key;exact⟨[.rs (k+1) len f],⟨⟨rfl,Nat.le_trans hl Zt,λi hi=>(hf i hi).1⟩,trivial⟩,aG ⟨some a,cap,rfl,hl,λi hi=>let ⟨_,b,o,u,e1,e2,e3,e4⟩:=hf i hi;⟨b,o,u,by rw[e1],e2,e3,e4⟩⟩ rfl⟩
    cases h
   cases h
  rename_i fs XR;rw[XR] at hk;obtain⟨fa,rfl,hfa⟩:=lY hk;obtain⟨xs,m,rfl,-,hlen,hxl,hg⟩:=DataW.trod_struct hu hx;rw[g9 Vz] at hlen;rw[<-hfa] at h;obtain⟨l,k1,k2⟩:=I2 (λt ps hp cs x hx=>nY d t ps hp m cs x hx) hlen fa.toList 0 ps h λf hf=>(by obtain⟨i,hi,he⟩:=List.mem_iff_getElem.1 hf;have VT:i<fa.size:=(by simpa using hi);have h1:=hg i f (by rw[Uj VT];simpa using Uo some he);exact⟨xs[i]'(by omega),by rw[h1,UE]⟩);exact⟨l,k1,k2⟩;rename_i n e XR;rw[XR] at hk;obtain rfl:=tj hk;split at h;rename_i ps' ei Yx Vw;split at h;rename_i VD Vi;obtain rfl:=Oi h;have Vi:=Nb Vi;obtain⟨xs,m,rfl,-,hlen,hxl,hg⟩:=DataW.trod_array hu hx;rw[g9 Vz,<-Vi] at hlen;rw[g9 Vw] at hg;obtain⟨l,k1,k2⟩:=D9 (f:=λ_=>[]) (ps:=ps') (sz:=ei.sz) (cs:=cs) (W:=W) n 0 (λj hj=>by have:=hg j hj;rw[B'];rw[UE (by omega)] at this;exact nY d e ps' Yx m _ _ this) (by rw[B'];exact hlen);exact⟨l,k1,by simpa using k2⟩;cases h;cases h;cases h;rename_i XR;rw[XR] at hk;obtain rfl:=zt hk;obtain rfl:=Oi h;have hstr:C.P.underlying t=some .string:=hu;obtain⟨s,rfl,-,-⟩:=DataW.trod_string hstr hx;exact⟨[.v (.string s)],⟨trivial,trivial⟩,aG rfl rfl⟩;cases h;cases h
theorem NL{t:Nat}{p:Pt}(h:QT C.P C.T t=some p){v:Value}{d:DataW H}{ps:List MemPlace}{r:Reach}{b0:Nat}(hv:Value.okWide C.P W r b0 t v)(ht:DataW.Trod enc C.P W 0 sp held t v d ps):∃x,Fit p x∧den (zW W) x v:=by
 unfold QT at h;split at h;cases h;rename_i l hl;obtain⟨fuel,hf⟩:=ht;obtain⟨y,h1,h2⟩:=nY 10 t l hl _ _ _ hf;split at h
 ·rename_i VR;obtain rfl:=Oi h;unfold QY at VR;split at VR
  ·rename_i ti Vz;obtain⟨dd,hu,hk⟩:=ml Vz;have:∃cs,v=.agg cs:=by
    cases V6:ti.k with
    | struct fs=>
     rw[V6] at hk;obtain⟨fa,rfl,-⟩:=lY hk;simp only[Value.okWide,hu] at hv;exact⟨_,hv.choose_spec.1⟩
    | arr n e=>
     rw[V6] at hk;obtain rfl:=tj hk;simp only[Value.okWide,hu] at hv;exact⟨_,hv.choose_spec.1⟩
    | _=>rw[V6] at VR;cases VR
   obtain⟨cs,rfl⟩:=this;exact⟨.agg y,h1,cs.toList,by simpa[Value.cells] using h2,by simp⟩
  cases VR
 rename_i VR;split at h
 ·rename_i p';obtain rfl:=Oi h
  match y,h1 with
  | [x],h1=>
   obtain⟨a,b,e1,e2,e3⟩:=aJ h2;obtain rfl:=cd e3;have hv1:∀cs,v≠.agg cs:=by
    intro cs hc;subst hc;have Yq:∀(d:Nat),qj C.P C.T d t=some [p']->False:=by
     intro d hd;cases d with
     | zero=>cases hd
     | succ d=>
      simp only[qj] at hd;split at hd;cases hd;rename_i ti Vz;obtain⟨dd,hu,hk⟩:=ml Vz;have hag':gY ti.k=false:=(by unfold QY at VR;rw[Vz] at VR;exact VR);cases V6:ti.k with
      | int k=>rw[V6] at hk;obtain rfl:=th hk;simp[Value.okWide,hu,Cell.okWide,Cell.ok] at hv
      | bool=>rw[V6] at hk;obtain rfl:=vg hk;simp[Value.okWide,hu,Cell.okWide,Cell.ok] at hv
      | sl e=>rw[V6] at hk;obtain rfl:=DC hk;simp[Value.okWide,hu,Cell.okWide,Cell.ok] at hv
      | prim=>rw[V6] at hd;cases hd
      | str=>rw[V6] at hk;obtain rfl:=zt hk;simp[Value.okWide,hu,Cell.okWide,Cell.ok] at hv
      | mp _ _=>rw[V6] at hd;cases hd
      | ptr=>rw[V6] at hd;cases hd
      | struct fs=>rw[V6] at hag';cases hag'
      | arr n e=>rw[V6] at hag';cases hag'
    exact Yq 10 hl
   refine⟨x,h1.1,?_⟩;have:v.cells.toList=[v]:=by
    cases v<;>first|rfl|exact Up rfl (hv1 _)|skip
    all_goals simp[Value.cells]
   rw[this] at e1;obtain rfl:v=a:=(by injection e1);exact e2
 cases h
end
end Go.Proofs.YtgigkennhdolpaaGreatDoor
namespace Go.Proofs.YtgigkennhdolpaaGreatDoor
open Go.ChangeShapes Go.WideShapes Go.ChangeAt Go.RowKit
theorem mQ{H:Type}{enc:TypeId×Value->H}{P:Program}(hl:laidOutB P=true){W W':World}(hb:Below W.heap.size W W'){sp:Nat->Bool} :
  ∀{ts:List TypeId} {vs:List Value} {ds:List (DataW H)} {ps:List MemPlace},(ts.all λt=>P.readableRec t&&decide (t<P.types.size))=true->
   DataW.TrodAll enc P W 0 (λ_=>true) true ts vs ds ps->(∀x∈ps,x.block<W.heap.size)->(∀p∈ps,sp p.block=true)->DataW.TrodAll enc P W' 0 sp true ts vs ds ps
 | [],vs,ds,ps,_,h,_,_=>by obtain⟨rfl,rfl,rfl⟩:=trodAll_nil h;exact trodAll_mk0
 | t::ts,vs,ds,ps,hr,h,UY,hs=>by
  obtain⟨v,Zd,d,ds',p,q,rfl,rfl,rfl,h1,h2⟩:=trodAll_cons h;rw[List.all_cons,Uk,Uk] at hr;exact trodAll_cons_mk (WideElems.Trod_stays hl hr.1.1 (Od hr.1.2) h1 (λx hx=>hb.same (UY x (UC.2 (.inl hx)))) (λx hx=>hs x (UC.2 (.inl hx))))
   (mQ hl hb hr.2 h2 (λx hx=>UY x (UC.2 (.inr hx))) (λx hx=>hs x (UC.2 (.inr hx))))
theorem IC{H:Type}{enc:TypeId×Value->H}{P:Program}(hl:laidOutB P=true){f:Func}{s:ChangeSpec}{W W':World}{args:Array Value}{ds gs:List (DataW H)}{before:List MemPlace}{tb:TypeId}
  (hr:(f.params.toList.all λt=>P.readableRec t&&decide (t<P.types.size))=true) (YY:f.resultTypes=#[tb]) (htb:P.underlying tb=some .bool) (hvars:s.vars=[])
  (Z5:(s.fn H ds).results=[.lit (.bool true)]∧(s.fn H ds).args=ds∧(s.fn H ds).vars=[])
  (hW:DataW.Whole enc P f.params.toList s.vars false W args.toList ds gs before) (hg:Gr W W') :
  s.post enc P f false true false false W args (.bool true) W':=by
 have hW':=hW;obtain⟨p,q,hA,hV,rfl,hfz,hnd⟩:=hW;rw[hvars] at hV;obtain⟨rfl,rfl⟩:=trodVars_none hV;have UY:∀x∈p,x.block<W.heap.size:=λx hx=>hW'.lt x (UC.2 (.inl hx));refine⟨ds,[],p++[],[],p,[],hW',?_,?_,?_,Below.frame hg _,λh=>by cases h⟩;rw[List.append_nil,Z5.1,YY];exact trodAll_mk1 (shut_bool htb true);rw[List.append_nil,Z5.2.1];exact mQ hl hg hr hA UY (λx hx=>by simpa using UY x hx);rw[List.append_nil,Z5.2.2,hvars];rfl
theorem own:ownKnob Tryz.prog.godebug=none:=by kernel_rfl
theorem yE:laidOutB Tryz.prog=true:=by kernel_rfl
end Go.Proofs.YtgigkennhdolpaaGreatDoor
namespace Go.Proofs.YtgigkennhdolpaaGreatDoor
open Go.ChangeShapes Go.WideShapes Go.ChangeAt Go.RowKit Go.Conc
section
variable {PP:Program}{C:Cx PP}{H:Type}{enc:TypeId×Value->H}{W:World}{sp:Nat->Bool}{held:Bool}
theorem zT:∀{ts:List TypeId} {pts:List Pt} {vs:List Value} {ds:List (DataW H)} {ps:List MemPlace} {r:Reach} {b0:Nat},Kd C.P C.T ts=some pts->(∀(j:Nat) t v,ts[j]? = some t->vs[j]? = some v->Value.okWide C.P W r b0 t v)->
  DataW.TrodAll enc C.P W 0 sp held ts vs ds ps->∃xs,iY pts xs∧aj (zW W) xs vs
 | [],pts,vs,ds,ps,r,b0,h,hv,ht=>by obtain rfl:=Oi h;obtain⟨rfl,-,-⟩:=trodAll_nil ht;exact⟨[],trivial,rfl⟩
 | t::ts,pts,vs,ds,ps,r,b0,h,hv,ht=>by simp only[Kd] at h;split at h;rename_i p q hp hq;obtain rfl:=Oi h;obtain⟨v,Zd,d,ds',p',q',rfl,rfl,-,h1,h2⟩:=trodAll_cons ht;obtain⟨x,k1,k2⟩:=NL hp (hv 0 t v rfl rfl) h1;obtain⟨xs,k3,k4⟩:=zT hq (λj t v h1 h2=>hv (j+1) t v h1 h2) h2;exact⟨x::xs,⟨k1,k3⟩,aG k2 k4⟩;cases h
theorem pW:∀{ts:List TypeId} {vs:List Value} {ds:List (DataW H)} {ps:List MemPlace},DataW.TrodAll enc C.P W 0 sp held ts vs ds ps->ds.length=ts.length
 | [],vs,ds,ps,h=>by obtain⟨-,rfl,-⟩:=trodAll_nil h;rfl
 | t::ts,vs,ds,ps,h=>by obtain⟨v,Zd,d,ds',p',q',rfl,rfl,-,h1,h2⟩:=trodAll_cons h;simp[pW h2]
theorem Bi{Γ:List (UO C)}{Fs:List (V3 C)}{d:Nat}{f:FuncId}{fn:Func}{α:Type}{pts:List Pt}{vs:List Value}(R:ZU α)(h:XA)(hm:C.P.follows .mixedOrders=true)
  (hf:C.P.funcs[f]? = some fn) (hB:fQ h.fl fn=true) (hG:C.WT W) (hp:R.nA=Pt.nA pts) (hx:∃xs,iY pts xs∧aj (zW W) xs vs)
  (he:∀a:α,iY pts (R.enc a)->aM Γ Fs d h fn (R.enc a) λv H _=>ae (.bl true) H v) :
  br C.P C.co f vs.toArray W λe W'=>e=.returned (.bool true)∧Gr W W':=by
 obtain⟨xs,k1,k2⟩:=hx;have hd:aj (zW W) (R.enc (R.dec xs)) vs:=by rw[R.ok,hp];exact cI _ _ _ (kP _ _ k1) k2
 have Vn:iY pts (R.enc (R.dec xs)):=by rw[R.ok,hp];exact rh _ _ k1
 refine(oE h hm hf hB hG (λb i c h=>h) hd (he _ Vn)).mono ?_;rintro e W' ⟨val,z',rfl,hg,-,hv⟩;obtain rfl:val=.bool true:=hv;exact⟨rfl,hg⟩
end
def BT(w:World)(b:Nat):Prop:=∃o,w.heap[b]? = some o∧¬Obj.plain o
theorem RF{w:World}(b:Nat)(h:BT w b):b<w.heap.size:=by obtain⟨o,h,-⟩:=h;exact(E'.1 h).1
theorem Hm{w:World}(b:Nat)(o:Obj)(h:¬BT w b)(e:w.heap[b]? = some o):Obj.plain o:=Classical.byContradiction λhp=>h ⟨o,e,hp⟩
noncomputable def msk(w:World):World:=mask (BT w) (λ_=>False) w
theorem ym(w:World):(msk w).heap.size=w.heap.size:=by simp[msk,mask]
theorem yn{w:World}{a:Addr}{c:Value}(h:w.cell? a=some c):(msk w).cell? a=some c:=by
 rw[<-h];refine EP λ⟨o,e,hp⟩=>?_;unfold World.cell? at h;rw[e] at h;cases o with
 | cells _ _ _=>exact hp trivial
 | _=>cases h
theorem PG(W:World):(zW W).le (zW (msk W)):=⟨λ_ _ h=>(by cases h),λ_ _ h=>(by cases h),λ_ _ _ h=>(by cases h),λ_ _ _ h=>⟨yn h.1,h.2⟩⟩
theorem Cx.WT.msk{PP:Program}{C:Cx PP}{W:World}(h:C.WT W):C.WT (msk W):=
 ⟨by rw[ym];exact h.1,λb sb hb=>let ⟨h0,vs,h1,h2⟩:=h.2 b sb hb;⟨h0,vs,h1,λi v hv=>yn (h2 i v hv)⟩⟩
theorem Mt{W W' W1 w':World}{S:Nat->Prop}(hg:Gr (msk W) W')(hr:Rv W' W1)(hv:View S (λ_=>False) w' W1)(h0:∀b:Nat,BT W b->S b∧w'.heap[b]? = W.heap[b]?)(h1:∀b:Nat,S b->BT W b∨W.heap.size<=b):Gr W w':=by have sz:=ym W;refine⟨?_,?_,?_,?_,λb hb=>?_⟩;rw[hv.os,hr.os,hg.os];rfl;rw[hv.tape,hr.tape,hg.tape];rfl;rw[hv.output,hr.output,hg.output];rfl;have h1:=hg.size;have h2:=hr.size;have h3:=hv.size;omega;by_cases hs:S b;rcases h1 b hs with h|h;exact(h0 b h).2;omega;have hn:¬BT W b:=λh=>hs (h0 b h).1;rw[hv.same b hs (λh=>h)];have e1:W'.heap[b]? = (msk W).heap[b]?:=hg.block b (by omega);have e2:(msk W).heap[b]? = W.heap[b]?:=uN hn (λh=>h);have e3:W.heap[b]? = some (W.heap[b]'hb):=Uj hb;rw[hr.heap b _ (e1.trans (e2.trans e3)),e3]
section
variable {PP:Program}{C:Cx PP}{W:World}
theorem IB{Γ:List (UO C)}{Fs:List (V3 C)}{d:Nat}{f:FuncId}{fn:Func}{α:Type}{pts:List Pt}{vs:List Value}{Φ:Value->World->Prop}(R:ZU α)(h:XA)(hm:C.P.follows .mixedOrders=true)(hco:C.co=true)(hi:C.P.inits.idxOf? f=none)
  (hf:C.P.funcs[f]? = some fn) (hB:fQ h.fl fn=true) (hG:C.WT W) (hp:R.nA=Pt.nA pts) (hx:∃xs,iY pts xs∧aj (zW W) xs vs)
  (he:∀a:α,iY pts (R.enc a)->aM Γ Fs d h fn (R.enc a) λv H _=>ae (.bl true) H v) (hΦ:∀w',Gr W w'->Φ (.bool true) w') :
  ∃M last o w' t',runNT C.P (M+1) (solo (G (Frame.enter C.P f vs.toArray .normal) []) W) #[]=(.ended o w',t')∧runN C.P M (solo (G (Frame.enter C.P f vs.toArray .normal) []) W)=.next last ∧
   step C.P last=.ended o w'∧Conc.Good C.P Φ last o w' t':=by
 obtain⟨xs,k1,k2⟩:=hx;have hc:=Bi (W:=msk W) R h hm hf hB hG.msk hp ⟨xs,k1,aE (PG W) _ _ k2⟩ he;rw[hco] at hc;refine vM (S0:=BT W) hi RF Hm hc ?_;rintro e W' ⟨rfl,hg⟩;exact⟨_,rfl,λW1 hr S w' hv h0 h1=>hΦ w' (Mt hg hr hv h0 h1)⟩
end
section
variable {H:Type}{enc:TypeId×Value->H}
theorem yB{a:Assume}{C:Checked}{os:Os}{f:FuncId}{fn:Func}{s:ChangeSpec}{conds:List PathCond}{apart fresh handsOn again:Bool}{X:World->Array Value->Prop}
  (hX:∀(w w':World) (args:Array Value),w.heap=w'.heap->X w args->X w' args)
  (own:ownKnob C.prog.godebug=none) (started:os.Started) (Z5:C.prog.funcs[f]? = some fn)
  (witness:∃(w:World) (tape:Tape) (i:Input),w.os=os∧(w.forCall tape i).Shaped C.prog∧i.vars=[]∧Input.okWide C.prog (w.forCall tape i) .any w.heap.size f i ∧
   ((s.pre enc C.prog fn conds apart (w.forCall tape i).memory i.args∧X (w.forCall tape i).memory i.args)∧sizedMet enc C.prog fn (OpenSpec.ofChange s) apart (w.forCall tape i).memory i.args)∧a.holds C.prog (lone (Frame.enter C.prog f i.args .normal) [] (w.forCall tape i)))
  (runs:∀(W:World) (base:Nat) (args:Array Value) (ds gs:List (DataW H)) (before:List MemPlace),
   (∀(j:Nat) t v,fn.params[j]? = some t->args[j]? = some v->Value.okWide C.prog W .any base t v)->
   DataW.Whole enc C.prog fn.params.toList s.vars apart W args.toList ds gs before->
   conds.all (PathCond.test C.prog ⟨fn.params.toList,ds,s.plain.varTypes C.prog,gs⟩)=true->
   (DataW.weightsEach C.prog (fn.params.toList++s.plain.varTypes C.prog) (ds++gs)).all (·<=reachBytes)=true->X W args->
   a.holds C.prog (lone (Frame.enter C.prog f args .normal) [] W)->
   ∃M last o w' t',runNT C.prog (M+1) (solo (G (Frame.enter C.prog f args .normal) []) W) #[]=(.ended o w',t')∧runN C.prog M (solo (G (Frame.enter C.prog f args .normal) []) W)=.next last ∧
    step C.prog last=.ended o w'∧Conc.Good C.prog (λv W'=>s.post enc C.prog fn apart fresh handsOn again W args v W') last o w' t') :
  ReturnsInLeavingWide a C os f .any (λw args=>(s.pre enc C.prog fn conds apart w args∧X w args)∧sizedMet enc C.prog fn (OpenSpec.ofChange s) apart w args) (s.post enc C.prog fn apart fresh handsOn again):=by
 refine returnsInLeavingWide_of_good own started witness ?_;intro w tape i _ _ _ Vg hpre hholds;obtain⟨_,_,_,fn',hfn',_,_,_,_,hval⟩:=Vg;have e:fn'=fn:=Oi (hfn'.symm.trans Z5);subst e;obtain⟨⟨⟨ds,gs,before,hw,hc⟩,hx⟩,hz⟩:=hpre;have hw':=DataW.Whole.of_heap (w':=w.forCall tape i) (by rfl) hw;obtain⟨M,last,o,w',t',h1,h2,h3,h4⟩:=runs (w.forCall tape i) w.heap.size i.args ds gs before hval hw' hc (hz.weights hw) (hX _ _ _ (by rfl) hx) hholds;exact⟨M,last,o,w',t',h1,h2,h3,h4.mono λv hp=>ChangeSpec.post_blind hp⟩
end
theorem E4(Lk:Looks){p:Pinned}{s:OpenSpec}{c:OpenClaim}(kinds:List LaidKind)(tests:Bool)(har:Bool×String)(lk:Bool)
  (hc:c.holds p s) (hw:c.wfByText s=true) (htie:c.laidByTextAt Lk p kinds tests)
  (U4:c.start=.entering) (hnb:c.noBlocks=false∧c.again=false) (hm:p.checked.prog.mainIs=some (har.1,har.2.toList)) (hn:(!har.1&&har.2.isEmpty&&!lk)=false)
  (hl:∀f fn,p.checked.prog.funcNamed c.func=some f->p.checked.prog.funcs[f]? = some fn->lk=p.checked.prog.looks []∧∀(j:Nat) t,fn.params[j]? = some t->p.checked.prog.wantsStandIn t=false)
  (hg:true=c.goesBy p.checked.prog) :
  Claim7.holds p (.plain s) {stood:={row:=c,standIns:=[],harness:=har,looks:=lk},kinds:=[],alts:=[],goes:=true,laidByText:=true,laidKinds:=kinds,laidTests:=tests,laidLooks:=Lk}:=by
 have h6:Claim7.isSixth {stood:={row:=c,standIns:=[],harness:=har,looks:=lk},kinds:=[]} = false:=by simpa[Claim7.isSixth] using hn
 have h1:=Claim7.tied_new_at Lk kinds tests (Claim7.new_of_sixth hc har lk U4 hnb hm h6 hl) hw;unfold Claim7.holds;refine Ai h1 (Ai ?_ (Ai htie (Ai ?_ hg)));intro D hD;cases hD;intro h;cases h
end Go.Proofs.YtgigkennhdolpaaGreatDoor
namespace Go.Proofs.YtgigkennhdolpaaGreatDoor
open Go.ChangeShapes Go.WideShapes Go.ChangeAt Go.RowKit
def wN(rec:DataW Unit->Option (List Value)):List (DataW Unit)->Option (List Value)
 | []=>some []
 | d::r=>match rec d,wN rec r with|some a,some b=>some (a++b)|_,_=>none
def sN(rec:Nat->DataW Unit->Option (List Value))(T:List (Nat×TI))(total:Nat):Nat->List (Nat×Nat)->List (DataW Unit)->Option (List Value)
 | off,[],l=>match l,Nat.beq off total with|[],true=>some []|_,_=>none
 | off,(o,t)::r,l=>match l with
  | []=>none
  | d::ds=>match Nat.beq o off,rec t d,look T t with
   | true,some a,some ti=>match sN rec T total (off+ti.sz) r ds with|some b=>some (a++b)|none=>none
   | _,_,_=>none
def yU(T:List (Nat×TI)):Nat->Nat->DataW Unit->Option (List Value)
 | 0,_,_=>none
 | D+1,t,d=>match look T t with
  | none=>none
  | some ti=>match ti.k,d with
   | .int _,.lit (.int k n)=>some [.int k n]
   | .arr n e,.agg l=>match look T e with
    | some ei=>match Nat.beq (n*ei.sz) ti.sz with|true=>wN (yU T D e) l|false=>none
    | none=>none
   | .struct fs,.agg l=>sN (yU T D) T ti.sz 0 fs l
   | _,_=>none
section
variable {PP:Program}{C:Cx PP}{W:World}{sp:Nat->Bool}{held:Bool}
theorem yT{rec:DataW Unit->Option (List Value)}{sz:Nat}{cs:List Value} : ∀{l:List (DataW Unit)} {vs:List Value} {i:Nat},wN rec l=some vs->(∀j d,l[j]? = some d->∀a,rec d=some a->(cs.drop ((i+j)*sz)).take sz=a)->cs.length=(i+l.length)*sz->cs.drop (i*sz)=vs
 | [],vs,i,h,_,hl=>by obtain rfl:=Oi h;rw[List.drop_of_length_le (by rw[hl];simp)]
 | d::r,vs,i,h,hk,hl=>by
  simp only[wN] at h;split at h
  ·rename_i a b ha hb;obtain rfl:=Oi h;have h1:=hk 0 d rfl a ha;rw[Nat.add_zero] at h1;have h2:=yT (i:=i+1) hb (λj d' hj a' ha'=>by
    have:=hk (j+1) d' hj a' ha'
    rwa [show i+(j+1)=i+1+j by omega] at this) (by rw[hl];simp only[List.length_cons];congr 1;omega)
   rw[<-h1,<-h2,Nat.succ_mul,<-List.drop_drop,List.take_append_drop]
  cases h
theorem Di{rec:Nat->DataW Unit->Option (List Value)}{total:Nat}{cs:List Value}(Xm:cs.length=total):∀{fs:List (Nat×Nat)} {l:List (DataW Unit)} {vs:List Value} {off:Nat},sN rec C.T total off fs l=some vs->
  (∀(j:Nat) (f:Nat×Nat) (d:DataW Unit),fs[j]? = some f->l[j]? = some d->∀a,rec f.2 d=some a->(cs.drop f.1).take (C.P.cellsOf f.2)=a)->cs.drop off=vs
 | [],l,vs,off,h,hk=>by simp only[sN] at h;split at h;rename_i hb;obtain rfl:=Oi h;have:=Nb hb;rw[List.drop_of_length_le (by omega)];cases h
 | (o,t)::r,l,vs,off,h,hk=>by simp only[sN] at h;split at h;cases h;rename_i d ds;split at h;rename_i a ti hb ha Vz;split at h;rename_i b VW;obtain rfl:=Oi h;obtain rfl:=Nb hb;have h1:=hk 0 (o,t) d rfl rfl a ha;rw[g9 Vz] at h1;have h2:=Di Xm (off:=o+ti.sz) VW (λj f d' hf hd=>hk (j+1) f d' hf hd);rw[<-h1,<-h2,<-List.drop_drop,List.take_append_drop];cases h;cases h
theorem oP:∀(D t:Nat) (d:DataW Unit) (vs:List Value),yU C.T D t d=some vs->∀(fuel:Nat) (cs:List Value) (p:List MemPlace),DataW.trod (λ_=>()) C.P W 0 sp held fuel t cs=some (d,p)->cs=vs
 | 0,t,d,vs,h,_,_,_,_=>by cases h
 | D+1,t,d,vs,h,fuel,cs,p,hx=>by
  simp only[yU] at h;split at h;cases h;rename_i ti Vz;obtain⟨dd,hu,hk⟩:=ml Vz;split at h;rename_i k0 k n XR;rw[XR] at hk;obtain rfl:=th hk;obtain rfl:=Oi h;obtain⟨m,c1,c2,-⟩:=DataW.trod_int hu hx;have e:=Uo Prod.fst c2;simp only[DataW.lit.injEq,Lit.int.injEq] at e;obtain⟨rfl,rfl⟩:=e;exact c1
  ·rename_i n e l XR;rw[XR] at hk;obtain rfl:=tj hk;obtain⟨xs,m,-,hxe,hlen,hxl,YQ⟩:=DataW.trod_array hu hx;have e1:=Uo Prod.fst hxe;simp only[DataW.agg.injEq] at e1;subst e1;split at h
   ·rename_i ei Vw;split at h
    ·rename_i hb;have hb:=Nb hb;rw[g9 Vz,<-hb] at hlen;rw[g9 Vw] at YQ;have:=yT (sz:=ei.sz) (cs:=cs) (i:=0) h (λj d' hj a ha=>by
      rw[List.getElem?_map] at hj;cases hxj:xs[j]? with
      | none=>rw[hxj] at hj;cases hj
      | some y=>
       rw[hxj] at hj;have hj:y.1=d':=Oi hj;have hjn:j<n:=(by rw[<-hxl];exact(J'.1 hxj).1);have h1:=YQ j hjn;rw[hxj] at h1;rw[B'];exact oP D e y.1 a (by rw[hj];exact ha) m _ y.2 h1) (by rw[hlen];simp[hxl])
     simpa using this
    cases h
   cases h
  ·rename_i fs l XR;rw[XR] at hk;obtain⟨fa,rfl,hfa⟩:=lY hk;obtain⟨xs,m,-,hxe,hlen,hxl,hg⟩:=DataW.trod_struct hu hx;have e1:=Uo Prod.fst hxe;simp only[DataW.agg.injEq] at e1;subst e1;rw[g9 Vz] at hlen;have:=Di (C:=C) hlen h (λj f d' hf hj a ha=>by
    rw[List.getElem?_map] at hj;cases hxj:xs[j]? with
    | none=>rw[hxj] at hj;cases hj
    | some y=>
     rw[hxj] at hj;have hj:y.1=d':=Oi hj;rw[<-hfa,List.getElem?_map] at hf;cases hfj:fa.toList[j]? with
     | none=>rw[hfj] at hf;cases hf
     | some ff=>
      rw[hfj] at hf;obtain rfl:(ff.offset,ff.type)=f:=Oi hf;have h1:=hg j ff (by rw[<-Array.getElem?_toList];exact hfj);rw[hxj] at h1;exact oP D ff.type y.1 a (by rw[hj];exact ha) m _ y.2 h1)
   simpa using this
  cases h
theorem C1:∀{l:List (String×DataW Unit)} {ps:List MemPlace} {n:String} {d:DataW Unit},DataW.LaidVars C.P W l ps->(n,d)∈l->∃g t cs fuel p,C.P.globalNamed n=some g∧(C.P.globals[g]?).map (·.type)=some t∧W.var? C.P n=some cs∧DataW.trod (λ_=>()) C.P W 0 (λ_=>true) false fuel t cs.toList=some (d,p)
 | [],ps,n,d,h,hm=>by cases hm
 | (n',d')::r,ps,n,d,h,hm=>by obtain⟨g,t,cs,fuel,p,q,e1,e2,e3,e4,hr,-⟩:=h;rcases UB.1 hm with hm|hm;obtain⟨rfl,rfl⟩:=P' hm;exact⟨g,t,cs,fuel,p,e1,e2,e3,e4⟩;exact C1 hr hm
theorem Bj{l:List (String×DataW Unit)}{n:String}{d:DataW Unit}{g t:Nat}{vs:List Value}(h:laidMetH C.P l W)(hm:(n,d)∈l)(hd:d.handleName?.isNone=true)(hg:C.P.globalNamed n=some g)(ht:(C.P.globals[g]?).map (·.type)=some t)(hv:yU C.T 6 t d=some vs) :
  ∀(i:Nat) (v:Value),vs[i]? = some v->W.cell? ⟨g,i,none⟩=some v:=by
 obtain⟨ps,hV,-⟩:=(laidMetH_iff.1 h).1;obtain⟨g',t',cs,fuel,p,e1,e2,e3,e4⟩:=C1 (C:=C) hV (List.mem_filter.2 ⟨hm,hd⟩);rw[hg] at e1;obtain rfl:=Oi e1;rw[ht] at e2;obtain rfl:=Oi e2;intro i v hi;rw[World.var?_cell hg e3 i];have:=oP 6 t d vs hv fuel cs.toList p e4;rw[<-this] at hi;simpa using hi
end
end Go.Proofs.YtgigkennhdolpaaGreatDoor
