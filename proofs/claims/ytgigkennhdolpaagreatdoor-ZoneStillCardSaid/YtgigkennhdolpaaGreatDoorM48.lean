/- A symbolic executor with lists, 20. -/
import Derived.Test.YtgigkennhdolpaaGreatDoorM15
import Derived.ProofKit
import Derived.OpenShut
import Derived.Deep.Slices
import Derived.Test.YtgigkennhdolpaaGreatDoorRows
import Derived.Test.YtgigkennhdolpaaGreatDoorM0
import Derived.LaidMore
import Derived.LaidOnce
import Derived.Stop.Joined
import Derived.Test.YtgigkennhdolpaaGreatDoorM47
import Derived.LaidHandle
import Derived.LaidSub
import Derived.Conc.LeavingOf
import Derived.SevenTiedAt
namespace Go.Proofs.YtgigkennhdolpaaGreatDoor
open Go.ChangeShapes Go.WideShapes Go.RowKit
inductive Pt where
 | int (k:IntKind)
 | bool
 | any
 | sl (sz:Nat) (e:List Pt)
 | agg (l:List Pt)
mutual
def Fit:Pt->SV->Prop
 | .int k,x=>match x with|.v (.int k' n)=>k'=k∧k.min<=n∧n<=k.max|_=>False
 | .bool,x=>match x with|.v (.bool _)=>True|_=>False
 | .any,x=>match x with|.v (.string _)=>True|_=>False
 | .sl sz ps,x=>match x with|.rs Vi n f=>Vi=sz∧n<=maxLen∧∀i,i<n->jr ps (f i)|_=>False
 | .agg ps,x=>match x with|.agg l=>jr ps l|_=>False
def jr:List Pt->List SV->Prop
 | [],x=>match x with|[]=>True|_::_=>False
 | p::r,x=>match x with|[]=>False|y::s=>Fit p y∧jr r s
end
mutual
def Pt.pat:Pt->SV
 | .int k=>.v (.int k 0)
 | .bool=>.v (.bool false)
 | .any=>.e
 | .sl sz ps=>.rs sz 0 λ_=>Pt.nD ps
 | .agg ps=>.agg (Pt.nD ps)
def Pt.nD:List Pt->List SV
 | []=>[]
 | p::r=>p.pat::Pt.nD r
end
mutual
theorem FH:∀(p:Pt) (x:SV),Fit p x->alike p.pat x
 | .int k,x,h=>by unfold Fit at h;split at h;exact h.1;exact h.elim
 | .bool,x,h=>by unfold Fit at h;split at h;exact trivial;exact h.elim
 | .any,x,h=>trivial
 | .sl sz ps,x,h=>by unfold Fit at h;split at h;exact⟨h.1,λi hi=>kX ps _ (h.2.2 i hi)⟩;exact h.elim
 | .agg ps,x,h=>by unfold Fit at h;split at h;exact kX ps _ h;exact h.elim
theorem kX:∀(p:List Pt) (x:List SV),jr p x->fE (Pt.nD p) x
 | [],x,h=>by
  cases x with
  | nil=>trivial
  | cons _ _=>exact h.elim
 | p::r,x,h=>by
  cases x with
  | nil=>exact h.elim
  | cons y s=>exact⟨FH p y h.1,kX r s h.2⟩
end
mutual
theorem QB:∀(p:Pt) (x:SV),Fit p x->Fit p (jn false p.pat x)
 | .int k,x,h=>by unfold Fit at h;split at h;exact⟨rfl,h.2⟩;exact h.elim
 | .bool,x,h=>by unfold Fit at h;split at h;exact trivial;exact h.elim
 | .any,x,h=>h
 | .sl sz ps,x,h=>by unfold Fit at h;split at h;exact⟨rfl,h.2.1,λi hi=>rC ps _ (h.2.2 i hi)⟩;exact h.elim
 | .agg ps,x,h=>by unfold Fit at h;split at h;exact rC ps _ h;exact h.elim
theorem rC:∀(p:List Pt) (x:List SV),jr p x->jr p (ZQ false (Pt.nD p) x)
 | [],x,h=>trivial
 | p::r,x,h=>by
  cases x with
  | nil=>exact h.elim
  | cons y s=>exact⟨QB p y h.1,rC r s h.2⟩
end
theorem Nj{ρ:Names}{p:Pt}{x:SV}{v:Value}(h:Fit p x)(hp:∀l,p≠.agg l)(hd:den ρ x v):v.oneCell'=true:=by
 cases p with
 | int k=>
  unfold Fit at h;split at h;obtain rfl:v=_:=hd;rfl;exact h.elim
 | bool=>
  unfold Fit at h;split at h;obtain rfl:v=_:=hd;rfl;exact h.elim
 | any=>
  unfold Fit at h;split at h;obtain rfl:v=_:=hd;rfl;exact h.elim
 | sl sz ps=>
  unfold Fit at h;split at h;obtain⟨a,cap,rfl,-⟩:=hd;rfl;exact h.elim
 | agg l=>exact Uw rfl (hp l)
def BM:Pt->Bool
 | .agg _=>false
 | _=>true
theorem zc{ρ:Names} : ∀{p:List Pt} {x:List SV} {vs:List Value},jr p x->p.all BM=true->ao ρ x vs->∀c∈vs,c.oneCell'=true
 | [],x,vs,h,_,hd,c,hc=>by
  cases x with
  | nil=>rw[cq hd] at hc;cases hc
  | cons _ _=>exact h.elim
 | p::r,x,vs,h,hp,hd,c,hc=>by
  cases x with
  | nil=>exact h.elim
  | cons y s=>
   obtain⟨a,b,rfl,h1,h2⟩:=aN hd;rw[List.all_cons,Ur] at hp;rcases UI.1 hc with rfl|hc;exact Nj h.1 (λl e=>by rw[e] at hp;exact Uw hp.1 (by simp[BM])) h1;exact zc h.2 hp.2 h2 c hc
theorem qC{p q:List Pt}{x y:List SV}(h:jr p x)(k:jr q y):jr (p++q) (x++y):=by
 induction p generalizing x with
 | nil=>
  cases x with
  | nil=>exact k
  | cons _ _=>exact h.elim
 | cons a r ih=>
  cases x with
  | nil=>exact h.elim
  | cons b s=>exact⟨h.1,ih h.2⟩
def td(rec:Nat->Option (List Pt))(T:List (Nat×TI))(total:Nat):Nat->List (Nat×Nat)->Option (List Pt)
 | off,[]=>match Nat.beq off total with|true=>some []|false=>none
 | off,(o,t)::r=>match Nat.beq o off,rec t,look T t with
  | true,some ps,some ti=>match Nat.beq ps.length ti.sz,td rec T total (off+ti.sz) r with
   | true,some qs=>some (ps++qs)
   | _,_=>none
  | _,_,_=>none
def PM:Nat->List Pt->List Pt
 | 0,_=>[]
 | n+1,l=>l++PM n l
def isStr(P:Program)(t:Nat):Bool:=match P.underlying t with|some .string=>true|_=>false
def qA(P:Program)(T:List (Nat×TI)):Nat->Nat->Option (List Pt)
 | 0,_=>none
 | d+1,t=>match look T t with
  | none=>none
  | some ti=>match ti.k with
   | .int k=>some [.int k]
   | .bool=>some [.bool]
   | .sl e=>match qA P T d e,look T e with
    | some ps,some ei=>match Nat.beq ps.length ei.sz,ei.sz,ps.all BM with
     | true,k+1,true=>some [.sl (k+1) ps]
     | _,_,_=>none
    | _,_=>none
   | .struct fs=>td (qA P T d) T ti.sz 0 fs
   | .arr n e=>match qA P T d e,look T e with
    | some ps,some ei=>match Nat.beq ps.length ei.sz,Nat.beq (n*ei.sz) ti.sz with
     | true,true=>some (PM n ps)
     | _,_=>none
    | _,_=>none
   | .prim=>match isStr P t with|true=>some [.any]|false=>none
   | .mp _ _=>none
   | .ptr=>none
def Rr(T:List (Nat×TI))(t:Nat):Bool:=match look T t with|some ti=>iS ti.k|none=>false
def Rj(P:Program)(T:List (Nat×TI))(t:Nat):Option Pt:=match qA P T 10 t with
 | none=>none
 | some ps=>match Rr T t with
  | true=>some (.agg ps)
  | false=>match ps with|[p]=>some p|_=>none
def KZ(P:Program)(T:List (Nat×TI)):List Nat->Option (List Pt)
 | []=>some []
 | t::r=>match Rj P T t,KZ P T r with|some p,some q=>some (p::q)|_,_=>none
section
variable {PP:Program}{C:Cx PP}{H:Type}{enc:TypeId×Value->H}{W:World}{sp:Nat->Bool}{held:Bool}
theorem iK{t:Nat}{ti:TI}(h:look C.T t=some ti):C.P.cellsOf t=ti.sz:=by obtain⟨i,d,z,h1,h2,h3,-⟩:=(C.ty h).ex;simp[Program.cellsOf,h1,h3]
theorem mC{t:Nat}{ti:TI}(h:look C.T t=some ti):∃d,C.P.underlying t=some d∧bn d ti.k=true:=by obtain⟨i,d,z,h1,h2,h3,h4,h5,h6,-⟩:=(C.ty h).ex;exact⟨d,h2,h6⟩
theorem tz{d:TypeDesc}{k:IntKind}(h:bn d (.int k)=true):d=.int k:=by
 cases d with
 | int k'=>obtain rfl:k'=k:=Od h;rfl
 | _=>first|cases h|(simp[bn] at h)
theorem vn{d:TypeDesc}(h:bn d .bool=true):d=.bool:=by
 cases d with
 | bool=>rfl
 | _=>first|cases h|(simp[bn] at h)
theorem Ed{d:TypeDesc}{e:Nat}(h:bn d (.sl e)=true):d=.slice e:=by
 cases d with
 | slice e'=>obtain rfl:e'=e:=eq_of_beq h;rfl
 | _=>first|cases h|(simp[bn] at h)
theorem mc{d:TypeDesc}{l:List (Nat×Nat)}(h:bn d (.struct l)=true):∃fs,d=.struct fs∧(fs.toList.map λf=>(f.offset,f.type))=l:=by
 cases d with
 | struct fs=>exact⟨fs,rfl,eq_of_beq h⟩
 | _=>first|cases h|(simp[bn] at h)
theorem tA{d:TypeDesc}{n e:Nat}(h:bn d (.arr n e)=true):d=.array n e:=by
 cases d with
 | array n' e'=>
  simp only[bn,Ur,beq_iff_eq] at h;rw[h.1,h.2]
 | _=>first|cases h|(simp[bn] at h)
theorem JA{rec:Nat->Option (List Pt)}{m total:Nat}(V5:∀t ps,rec t=some ps->∀cs (x:DataW H×List MemPlace),DataW.trod enc C.P W 0 sp held m t cs=some x->∃l,jr ps l∧ao (zW W) l cs){cs:List Value}(XF:cs.length=total) :
  ∀(fs:List Field) (off:Nat) (ps:List Pt),td rec C.T total off (fs.map λf=>(f.offset,f.type))=some ps->(∀f∈fs,∃x:DataW H×List MemPlace,DataW.trod enc C.P W 0 sp held m f.type ((cs.drop f.offset).take (C.P.cellsOf f.type))=some x)->
   ∃l,jr ps l∧ao (zW W) l (cs.drop off)
 | [],off,ps,h,_=>by simp only[List.map_nil,td] at h;split at h;rename_i hb;obtain rfl:=Oi h;have:=Nb hb;exact⟨[],trivial,by rw[List.drop_of_length_le (by omega)];rfl⟩;cases h
 | f::r,off,ps,h,hf=>by simp only[List.map_cons,td] at h;split at h;rename_i p ti hb hp VL;split at h;rename_i q Vz hq;obtain rfl:=Oi h;obtain rfl:=Nb hb;have hpl:=Nb Vz;obtain⟨x,hx⟩:=hf f Ut;rw[iK VL] at hx;obtain⟨l1,k1,k2⟩:=V5 _ _ hp _ _ hx;obtain⟨l2,k3,k4⟩:=JA V5 XF r _ _ hq λg hg=>hf g (UE _ hg);refine⟨l1++l2,qC k1 k3,?_⟩;have e:cs.drop f.offset=(cs.drop f.offset).take ti.sz++cs.drop (f.offset+ti.sz):=(by rw[<-List.drop_drop,List.take_append_drop]);rw[e];exact bg k2 k4;cases h;cases h
theorem EB{ps:List Pt}{sz:Nat}{cs:List Value}{f:Nat->List Value} : ∀(n i:Nat),(∀j,j<n->∃l,jr ps l∧ao (zW W) l ((cs.drop ((i+j)*sz)).take sz))->cs.length=(i+n)*sz->∃l,jr (PM n ps) l∧ao (zW W) l (cs.drop (i*sz))
 | 0,i,_,hl=>⟨[],trivial,by rw[List.drop_of_length_le (by rw[hl];simp)];rfl⟩
 | n+1,i,h,hl=>by obtain⟨l1,k1,k2⟩:=h 0 (by omega);obtain⟨l2,k3,k4⟩:=EB (f:=f) n (i+1) (λj hj=>by have:=h (j+1) (by omega);rwa [show i+(j+1)=i+1+j by omega] at this) (by rw[hl];congr 1;omega);refine⟨l1++l2,qC k1 k3,?_⟩;have e:cs.drop (i*sz)=(cs.drop (i*sz)).take sz++cs.drop ((i+1)*sz):=(by rw[Nat.succ_mul,<-List.drop_drop,List.take_append_drop]);rw[e];exact bg k2 k4
theorem n5:∀(d t:Nat) (ps:List Pt),qA C.P C.T d t=some ps->∀(fuel:Nat) (cs:List Value) (x:DataW H×List MemPlace),DataW.trod enc C.P W 0 sp held fuel t cs=some x->∃l,jr ps l∧ao (zW W) l cs
 | 0,t,ps,h,_,_,_,_=>by cases h
 | d+1,t,ps,h,fuel,cs,x,hx=>by
  simp only[qA] at h;split at h;cases h;rename_i ti VL;obtain⟨dd,hu,hk⟩:=mC VL;split at h;rename_i k X9;rw[X9] at hk;obtain rfl:=tz hk;obtain rfl:=Oi h;obtain⟨n,rfl,-,hw⟩:=DataW.trod_int hu hx;simp only[Lit.wf,Ur,Ux] at hw;exact⟨[.v (.int k n)],⟨⟨rfl,hw⟩,trivial⟩,aL rfl rfl⟩;rename_i X9;rw[X9] at hk;obtain rfl:=vn hk;obtain rfl:=Oi h;obtain⟨b,rfl,-⟩:=DataW.trod_bool hu hx;exact⟨[.v (.bool b)],⟨trivial,trivial⟩,aL rfl rfl⟩
  ·rename_i e X9;rw[X9] at hk;obtain rfl:=Ed hk;split at h
   ·rename_i ps' ei Yu VG;split at h
    ·rename_i k hb Xl XW;obtain rfl:=Oi h;have hpl:=Nb hb;have hes:C.P.cellsOf e=k+1:=(iK VG).trans Xl;rcases Go.Deep.open_slice hu hx with ⟨rfl,-⟩|⟨a,len,cap,m,n,D,Pl,rfl,hba,hl,ZD,hm,-,YS⟩
     exact⟨[.rs (k+1) 0 λ_=>[]],⟨⟨rfl,Up _,λi hi=>Uw hi (F' _)⟩,trivial⟩,aL ⟨none,0,rfl,I' _,λi hi=>Uw hi (F' _)⟩ rfl⟩;have hlm:len<=m:=(by rw[hm];split<;>omega);have key:∀i,i<len->∃l:List SV,jr ps' l∧∃b o u,a=(⟨b,o,none⟩:Addr)∧ao (zW W).zo l u∧u.length=k+1∧∀q c,u[q]? = some c->W.cell? ⟨b,o+i*(k+1)+q,none⟩=some c∧c.oneCell'=true:=by
      intro i hi;obtain⟨Yi,c1,c2⟩:=YS i (by omega);rw[hes] at c1;obtain⟨q0,q1,q2⟩:=World.cells?_some c1;obtain⟨l,k1,k2⟩:=n5 d e ps' Yu _ _ _ c2;have hspot:∀j,j<k+1->∃c,W.cell? (({block:=a.block,off:=a.off+i*(k+1)+j,spot:=a.spot} : Addr))=some c∨a.spot=none:=by
       intro j hj;by_cases hsp:a.spot=none;exact⟨undef,.inr hsp⟩;exact⟨undef,.inr (by
        exfalso;have h0:=YS 0 (by omega);obtain⟨cs0,d1,d2⟩:=h0;rw[hes] at d1;obtain⟨-,e1,e2⟩:=World.cells?_some d1;have:=e2 0 (by omega);have e3:cs0[0]? = some (cs0[0]'(by omega)):=UL (by omega);rw[e3] at this;simp[Addr.add,World.cell?] at this;split at this
        ·split at this;cases this;rename_i hns;apply hsp;cases hs:a.spot with
         | none=>rfl
         | some _=>rw[hs] at hns;simp at hns
        ·cases this)⟩
      have V6:a.spot=none:=by
       obtain⟨c,h1|h1⟩:=hspot 0 (by omega)
       ·cases hs:a.spot with
        | none=>rfl
        | some _=>
         rw[hs] at h1;simp[World.cell?] at h1;split at h1<;>cases h1
       exact h1
      obtain⟨b,o,s⟩:=a;obtain rfl:s=none:=V6;refine⟨l,k1,b,o,Yi,rfl,k2,q1,λq c hc=>?_⟩;have hql:q<k+1:=(by rw[<-q1];exact(J'.1 hc).1);have:=q2 q hql;refine⟨?_,zc k1 XW k2 c (UM hc)⟩;rw[hc] at this;rw[<-this];simp only[Addr.add]
      congr 1
      split<;>split<;>simp_all [Nat.add_assoc]
     obtain⟨f,hf⟩:=Go.Deep.choose_lt key;exact⟨[.rs (k+1) len f],⟨⟨rfl,Nat.le_trans hl ZD,λi hi=>(hf i hi).1⟩,trivial⟩,aL ⟨some a,cap,rfl,hl,λi hi=>let ⟨_,b,o,u,e1,e2,e3,e4⟩:=hf i hi;⟨b,o,u,by rw[e1],e2,e3,e4⟩⟩ rfl⟩
    cases h
   cases h
  rename_i fs X9;rw[X9] at hk;obtain⟨fa,rfl,hfa⟩:=mc hk;obtain⟨xs,m,rfl,-,hlen,hxl,hg⟩:=DataW.trod_struct hu hx;rw[iK VL] at hlen;rw[<-hfa] at h;obtain⟨l,k1,k2⟩:=JA (λt ps hp cs x hx=>n5 d t ps hp m cs x hx) hlen fa.toList 0 ps h λf hf=>(by obtain⟨i,hi,he⟩:=List.mem_iff_getElem.1 hf;have VZ:i<fa.size:=(by simpa using hi);have h1:=hg i f (by rw[Uq VZ];simpa using Uv some he);exact⟨xs[i]'(by omega),by rw[h1,UL]⟩);exact⟨l,k1,k2⟩;rename_i n e X9;rw[X9] at hk;obtain rfl:=tA hk;split at h;rename_i ps' ei Yu VG;split at h;rename_i VN Vz;obtain rfl:=Oi h;have Vz:=Nb Vz;obtain⟨xs,m,rfl,-,hlen,hxl,hg⟩:=DataW.trod_array hu hx;rw[iK VL,<-Vz] at hlen;rw[iK VG] at hg;obtain⟨l,k1,k2⟩:=EB (f:=λ_=>[]) (ps:=ps') (sz:=ei.sz) (cs:=cs) (W:=W) n 0 (λj hj=>by have:=hg j hj;rw[B'];rw[UL (by omega)] at this;exact n5 d e ps' Yu m _ _ this) (by rw[B'];exact hlen);exact⟨l,k1,by simpa using k2⟩;cases h;cases h;rename_i X9;split at h;rename_i hs;obtain rfl:=Oi h;have hstr:C.P.underlying t=some .string:=(by unfold isStr at hs;split at hs;assumption;cases hs);obtain⟨s,rfl,-,-⟩:=DataW.trod_string hstr hx;exact⟨[.v (.string s)],⟨trivial,trivial⟩,aL rfl rfl⟩;cases h;cases h;cases h
theorem OB{t:Nat}{p:Pt}(h:Rj C.P C.T t=some p){v:Value}{d:DataW H}{ps:List MemPlace}{r:Reach}{b0:Nat}(hv:Value.okWide C.P W r b0 t v)(ht:DataW.Trod enc C.P W 0 sp held t v d ps):∃x,Fit p x∧den (zW W) x v:=by
 unfold Rj at h;split at h;cases h;rename_i l hl;obtain⟨fuel,hf⟩:=ht;obtain⟨y,h1,h2⟩:=n5 10 t l hl _ _ _ hf;split at h
 ·rename_i V0;obtain rfl:=Oi h;unfold Rr at V0;split at V0
  ·rename_i ti VL;obtain⟨dd,hu,hk⟩:=mC VL;have:∃cs,v=.agg cs:=by
    cases Wz:ti.k with
    | struct fs=>
     rw[Wz] at hk;obtain⟨fa,rfl,-⟩:=mc hk;simp only[Value.okWide,hu] at hv;exact⟨_,hv.choose_spec.1⟩
    | arr n e=>
     rw[Wz] at hk;obtain rfl:=tA hk;simp only[Value.okWide,hu] at hv;exact⟨_,hv.choose_spec.1⟩
    | _=>rw[Wz] at V0;cases V0
   obtain⟨cs,rfl⟩:=this;exact⟨.agg y,h1,cs.toList,by simpa[Value.cells] using h2,by simp⟩
  cases V0
 rename_i V0;split at h
 ·rename_i p';obtain rfl:=Oi h
  match y,h1 with
  | [x],h1=>
   obtain⟨a,b,e1,e2,e3⟩:=aN h2;obtain rfl:=cq e3;have hv1:∀cs,v≠.agg cs:=by
    intro cs hc;subst hc;have XW:∀(d:Nat),qA C.P C.T d t=some [p']->False:=by
     intro d hd;cases d with
     | zero=>cases hd
     | succ d=>
      simp only[qA] at hd;split at hd;cases hd;rename_i ti VL;obtain⟨dd,hu,hk⟩:=mC VL;have hag':iS ti.k=false:=(by unfold Rr at V0;rw[VL] at V0;exact V0);cases Wz:ti.k with
      | int k=>rw[Wz] at hk;obtain rfl:=tz hk;simp[Value.okWide,hu,Cell.okWide,Cell.ok] at hv
      | bool=>rw[Wz] at hk;obtain rfl:=vn hk;simp[Value.okWide,hu,Cell.okWide,Cell.ok] at hv
      | sl e=>rw[Wz] at hk;obtain rfl:=Ed hk;simp[Value.okWide,hu,Cell.okWide,Cell.ok] at hv
      | prim=>
       rw[Wz] at hd;simp only at hd;split at hd;rename_i hs;have hstr:C.P.underlying t=some .string:=(by unfold isStr at hs;split at hs;assumption;cases hs);simp[Value.okWide,hstr,Cell.okWide,Cell.ok] at hv;cases hd
      | mp _ _=>rw[Wz] at hd;cases hd
      | ptr=>rw[Wz] at hd;cases hd
      | struct fs=>rw[Wz] at hag';cases hag'
      | arr n e=>rw[Wz] at hag';cases hag'
    exact XW 10 hl
   refine⟨x,h1.1,?_⟩;have:v.cells.toList=[v]:=by
    cases v<;>first|rfl|exact Uw rfl (hv1 _)|skip
    all_goals simp[Value.cells]
   rw[this] at e1;obtain rfl:v=a:=(by injection e1);exact e2
 cases h
end
end Go.Proofs.YtgigkennhdolpaaGreatDoor
namespace Go.Proofs.YtgigkennhdolpaaGreatDoor
open Go.ChangeShapes Go.WideShapes Go.ChangeAt Go.RowKit
theorem mZ{H:Type}{enc:TypeId×Value->H}{P:Program}(hl:laidOutB P=true){W W':World}(hb:Below W.heap.size W W'){sp:Nat->Bool} :
  ∀{ts:List TypeId} {vs:List Value} {ds:List (DataW H)} {ps:List MemPlace},(ts.all λt=>P.readableRec t&&decide (t<P.types.size))=true->
   DataW.TrodAll enc P W 0 (λ_=>true) true ts vs ds ps->(∀x∈ps,x.block<W.heap.size)->(∀p∈ps,sp p.block=true)->DataW.TrodAll enc P W' 0 sp true ts vs ds ps
 | [],vs,ds,ps,_,h,_,_=>by obtain⟨rfl,rfl,rfl⟩:=trodAll_nil h;exact trodAll_mk0
 | t::ts,vs,ds,ps,hr,h,U8,hs=>by
  obtain⟨v,Zl,d,ds',p,q,rfl,rfl,rfl,h1,h2⟩:=trodAll_cons h;rw[List.all_cons,Ur,Ur] at hr;exact trodAll_cons_mk (WideElems.Trod_stays hl hr.1.1 (Od hr.1.2) h1 (λx hx=>hb.same (U8 x (UJ.2 (.inl hx)))) (λx hx=>hs x (UJ.2 (.inl hx))))
   (mZ hl hb hr.2 h2 (λx hx=>U8 x (UJ.2 (.inr hx))) (λx hx=>hs x (UJ.2 (.inr hx))))
theorem Jh{H:Type}{enc:TypeId×Value->H}{P:Program}(hl:laidOutB P=true){f:Func}{s:ChangeSpec}{W W':World}{args:Array Value}{ds gs:List (DataW H)}{before:List MemPlace}{tb:TypeId}
  (hr:(f.params.toList.all λt=>P.readableRec t&&decide (t<P.types.size))=true) (Y2:f.resultTypes=#[tb]) (htb:P.underlying tb=some .bool) (hvars:s.vars=[])
  (hfn:(s.fn H ds).results=[.lit (.bool true)]∧(s.fn H ds).args=ds∧(s.fn H ds).vars=[])
  (hW:DataW.Whole enc P f.params.toList s.vars false W args.toList ds gs before) (hg:Gr W W') :
  s.post enc P f false true false false W args (.bool true) W':=by
 have hW':=hW;obtain⟨p,q,hA,hV,rfl,hfz,hnd⟩:=hW;rw[hvars] at hV;obtain⟨rfl,rfl⟩:=trodVars_none hV;have U8:∀x∈p,x.block<W.heap.size:=λx hx=>hW'.lt x (UJ.2 (.inl hx));refine⟨ds,[],p++[],[],p,[],hW',?_,?_,?_,Below.frame hg _,λh=>by cases h⟩;rw[List.append_nil,hfn.1,Y2];exact trodAll_mk1 (shut_bool htb true);rw[List.append_nil,hfn.2.1];exact mZ hl hg hr hA U8 (λx hx=>by simpa using U8 x hx);rw[List.append_nil,hfn.2.2,hvars];rfl
theorem own:ownKnob Tryz.prog.godebug=none:=by kernel_rfl
theorem yO:laidOutB Tryz.prog=true:=by kernel_rfl
end Go.Proofs.YtgigkennhdolpaaGreatDoor
namespace Go.Proofs.YtgigkennhdolpaaGreatDoor
open Go.ChangeShapes Go.WideShapes Go.ChangeAt Go.RowKit Go.Conc
section
variable {PP:Program}{C:Cx PP}{H:Type}{enc:TypeId×Value->H}{W:World}{sp:Nat->Bool}{held:Bool}
theorem Ac:∀{ts:List TypeId} {pts:List Pt} {vs:List Value} {ds:List (DataW H)} {ps:List MemPlace} {r:Reach} {b0:Nat},KZ C.P C.T ts=some pts->(∀(j:Nat) t v,ts[j]? = some t->vs[j]? = some v->Value.okWide C.P W r b0 t v)->
  DataW.TrodAll enc C.P W 0 sp held ts vs ds ps->∃xs,jr pts xs∧ao (zW W) xs vs
 | [],pts,vs,ds,ps,r,b0,h,hv,ht=>by obtain rfl:=Oi h;obtain⟨rfl,-,-⟩:=trodAll_nil ht;exact⟨[],trivial,rfl⟩
 | t::ts,pts,vs,ds,ps,r,b0,h,hv,ht=>by simp only[KZ] at h;split at h;rename_i p q hp hq;obtain rfl:=Oi h;obtain⟨v,Zl,d,ds',p',q',rfl,rfl,-,h1,h2⟩:=trodAll_cons ht;obtain⟨x,k1,k2⟩:=OB hp (hv 0 t v rfl rfl) h1;obtain⟨xs,k3,k4⟩:=Ac hq (λj t v h1 h2=>hv (j+1) t v h1 h2) h2;exact⟨x::xs,⟨k1,k3⟩,aL k2 k4⟩;cases h
theorem qk:∀{ts:List TypeId} {vs:List Value} {ds:List (DataW H)} {ps:List MemPlace},DataW.TrodAll enc C.P W 0 sp held ts vs ds ps->ds.length=ts.length
 | [],vs,ds,ps,h=>by obtain⟨-,rfl,-⟩:=trodAll_nil h;rfl
 | t::ts,vs,ds,ps,h=>by obtain⟨v,Zl,d,ds',p',q',rfl,rfl,-,h1,h2⟩:=trodAll_cons h;simp[qk h2]
theorem BB{Γ:List (UW C)}{Fs:List (Wl C)}{d:Nat}{f:FuncId}{fn:Func}{α:Type}{pts:List Pt}{vs:List Value}(R:ZM α)(h:X1)(hm:C.P.follows .mixedOrders=true)
  (hf:C.P.funcs[f]? = some fn) (hB:gG h.fl fn=true) (hG:C.Xe W) (hp:R.nD=Pt.nD pts) (hx:∃xs,jr pts xs∧ao (zW W) xs vs)
  (he:∀a:α,jr pts (R.enc a)->aH Γ Fs d h fn (R.enc a) λv H _=>af (.bl true) H v) :
  bx C.P C.co f vs.toArray W λe W'=>e=.returned (.bool true)∧Gr W W':=by
 obtain⟨xs,k1,k2⟩:=hx;have hd:ao (zW W) (R.enc (R.dec xs)) vs:=by rw[R.ok,hp];exact cL _ _ _ (kX _ _ k1) k2
 have Vv:jr pts (R.enc (R.dec xs)):=by rw[R.ok,hp];exact rC _ _ k1
 refine(oQ h hm hf hB hG (λb i c h=>h) hd (he _ Vv)).mono ?_;rintro e W' ⟨val,z',rfl,hg,-,hv⟩;obtain rfl:val=.bool true:=hv;exact⟨rfl,hg⟩
end
def Ci(w:World)(b:Nat):Prop:=∃o,w.heap[b]? = some o∧¬Obj.plain o
theorem R7{w:World}(b:Nat)(h:Ci w b):b<w.heap.size:=by obtain⟨o,h,-⟩:=h;exact(E'.1 h).1
theorem H7{w:World}(b:Nat)(o:Obj)(h:¬Ci w b)(e:w.heap[b]? = some o):Obj.plain o:=Classical.byContradiction λhp=>h ⟨o,e,hp⟩
noncomputable def msk(w:World):World:=mask (Ci w) (λ_=>False) w
theorem yA(w:World):(msk w).heap.size=w.heap.size:=by simp[msk,mask]
theorem yB{w:World}{a:Addr}{c:Value}(h:w.cell? a=some c):(msk w).cell? a=some c:=by
 rw[<-h];refine Fj λ⟨o,e,hp⟩=>?_;unfold World.cell? at h;rw[e] at h;cases o with
 | cells _ _ _=>exact hp trivial
 | _=>cases h
theorem P6(W:World):(zW W).le (zW (msk W)):=⟨λ_ _ h=>(by cases h),λ_ _ h=>(by cases h),λ_ _ _ h=>(by cases h),λ_ _ _ h=>⟨yB h.1,h.2⟩⟩
theorem Cx.Xe.msk{PP:Program}{C:Cx PP}{W:World}(h:C.Xe W):C.Xe (msk W):=
 ⟨by rw[yA];exact h.1,λb sb hb=>let ⟨h0,vs,h1,h2⟩:=h.2 b sb hb;⟨h0,vs,h1,λi v hv=>yB (h2 i v hv)⟩⟩
theorem Ng{W W' W1 w':World}{S:Nat->Prop}(hg:Gr (msk W) W')(hr:Rv W' W1)(hv:View S (λ_=>False) w' W1)(h0:∀b:Nat,Ci W b->S b∧w'.heap[b]? = W.heap[b]?)(h1:∀b:Nat,S b->Ci W b∨W.heap.size<=b):Gr W w':=by have sz:=yA W;refine⟨?_,?_,?_,?_,λb hb=>?_⟩;rw[hv.os,hr.os,hg.os];rfl;rw[hv.tape,hr.tape,hg.tape];rfl;rw[hv.output,hr.output,hg.output];rfl;have h1:=hg.size;have h2:=hr.size;have h3:=hv.size;omega;by_cases hs:S b;rcases h1 b hs with h|h;exact(h0 b h).2;omega;have hn:¬Ci W b:=λh=>hs (h0 b h).1;rw[hv.same b hs (λh=>h)];have e1:W'.heap[b]? = (msk W).heap[b]?:=hg.block b (by omega);have e2:(msk W).heap[b]? = W.heap[b]?:=uV hn (λh=>h);have e3:W.heap[b]? = some (W.heap[b]'hb):=Uq hb;rw[hr.heap b _ (e1.trans (e2.trans e3)),e3]
section
variable {PP:Program}{C:Cx PP}{W:World}
theorem Jg{Γ:List (UW C)}{Fs:List (Wl C)}{d:Nat}{f:FuncId}{fn:Func}{α:Type}{pts:List Pt}{vs:List Value}{Φ:Value->World->Prop}(R:ZM α)(h:X1)(hm:C.P.follows .mixedOrders=true)(hco:C.co=true)(hi:C.P.inits.idxOf? f=none)
  (hf:C.P.funcs[f]? = some fn) (hB:gG h.fl fn=true) (hG:C.Xe W) (hp:R.nD=Pt.nD pts) (hx:∃xs,jr pts xs∧ao (zW W) xs vs)
  (he:∀a:α,jr pts (R.enc a)->aH Γ Fs d h fn (R.enc a) λv H _=>af (.bl true) H v) (hΦ:∀w',Gr W w'->Φ (.bool true) w') :
  ∃M last o w' t',runNT C.P (M+1) (solo (G (Frame.enter C.P f vs.toArray .normal) []) W) #[]=(.ended o w',t')∧runN C.P M (solo (G (Frame.enter C.P f vs.toArray .normal) []) W)=.next last ∧
   step C.P last=.ended o w'∧Conc.Good C.P Φ last o w' t':=by
 obtain⟨xs,k1,k2⟩:=hx;have hc:=BB (W:=msk W) R h hm hf hB hG.msk hp ⟨xs,k1,aJ (P6 W) _ _ k2⟩ he;rw[hco] at hc;refine vT (S0:=Ci W) hi R7 H7 hc ?_;rintro e W' ⟨rfl,hg⟩;exact⟨_,rfl,λW1 hr S w' hv h0 h1=>hΦ w' (Ng hg hr hv h0 h1)⟩
end
section
variable {H:Type}{enc:TypeId×Value->H}
theorem yL{a:Assume}{C:Checked}{os:Os}{f:FuncId}{fn:Func}{s:ChangeSpec}{conds:List PathCond}{apart fresh handsOn again:Bool}{X:World->Array Value->Prop}
  (hX:∀(w w':World) (args:Array Value),w.heap=w'.heap->X w args->X w' args)
  (own:ownKnob C.prog.godebug=none) (started:os.Started) (hfn:C.prog.funcs[f]? = some fn)
  (witness:∃(w:World) (tape:Tape) (i:Input),w.os=os∧(w.forCall tape i).Shaped C.prog∧i.vars=[]∧Input.okWide C.prog (w.forCall tape i) .any w.heap.size f i ∧
   ((s.pre enc C.prog fn conds apart (w.forCall tape i).memory i.args∧X (w.forCall tape i).memory i.args)∧sizedMet enc C.prog fn (OpenSpec.ofChange s) apart (w.forCall tape i).memory i.args)∧a.holds C.prog (lone (Frame.enter C.prog f i.args .normal) [] (w.forCall tape i)))
  (runs:∀(W:World) (base:Nat) (args:Array Value) (ds gs:List (DataW H)) (before:List MemPlace),
   (∀(j:Nat) t v,fn.params[j]? = some t->args[j]? = some v->Value.okWide C.prog W .any base t v)->
   DataW.Whole enc C.prog fn.params.toList s.vars apart W args.toList ds gs before->
   conds.all (PathCond.test C.prog ⟨fn.params.toList,ds,s.plain.varTypes C.prog,gs⟩)=true->
   (DataW.weightsEach C.prog (fn.params.toList++s.plain.varTypes C.prog) (ds++gs)).all (·<=reachBytes)=true->X W args->
   a.holds C.prog (lone (Frame.enter C.prog f args .normal) [] W)->
   ∃M last o w' t',runNT C.prog (M+1) (solo (G (Frame.enter C.prog f args .normal) []) W) #[]=(.ended o w',t')∧runN C.prog M (solo (G (Frame.enter C.prog f args .normal) []) W)=.next last ∧
    step C.prog last=.ended o w'∧Conc.Good C.prog (λv W'=>s.post enc C.prog fn apart fresh handsOn again W args v W') last o w' t') :
  ReturnsInLeavingWide a C os f .any (λw args=>(s.pre enc C.prog fn conds apart w args∧X w args)∧sizedMet enc C.prog fn (OpenSpec.ofChange s) apart w args) (s.post enc C.prog fn apart fresh handsOn again):=by
 refine returnsInLeavingWide_of_good own started witness ?_;intro w tape i _ _ _ Vg hpre hholds;obtain⟨_,_,_,fn',hfn',_,_,_,_,hval⟩:=Vg;have e:fn'=fn:=Oi (hfn'.symm.trans hfn);subst e;obtain⟨⟨⟨ds,gs,before,hw,hc⟩,hx⟩,hz⟩:=hpre;have hw':=DataW.Whole.of_heap (w':=w.forCall tape i) (by rfl) hw;obtain⟨M,last,o,w',t',h1,h2,h3,h4⟩:=runs (w.forCall tape i) w.heap.size i.args ds gs before hval hw' hc (hz.weights hw) (hX _ _ _ (by rfl) hx) hholds;exact⟨M,last,o,w',t',h1,h2,h3,h4.mono λv hp=>ChangeSpec.post_blind hp⟩
end
theorem FD(Lk:Looks){p:Pinned}{s:OpenSpec}{c:OpenClaim}(kinds:List LaidKind)(tests:Bool)(har:Bool×String)(lk:Bool)
  (hc:c.holds p s) (hw:c.wfByText s=true) (htie:c.laidByTextAt Lk p kinds tests)
  (U7:c.start=.entering) (hnb:c.noBlocks=false∧c.again=false) (hm:p.checked.prog.mainIs=some (har.1,har.2.toList)) (hn:(!har.1&&har.2.isEmpty&&!lk)=false)
  (hl:∀f fn,p.checked.prog.funcNamed c.func=some f->p.checked.prog.funcs[f]? = some fn->lk=p.checked.prog.looks []∧∀(j:Nat) t,fn.params[j]? = some t->p.checked.prog.wantsStandIn t=false)
  (hg:true=c.goesBy p.checked.prog) :
  Claim7.holds p (.plain s) {stood:={row:=c,standIns:=[],harness:=har,looks:=lk},kinds:=[],alts:=[],goes:=true,laidByText:=true,laidKinds:=kinds,laidTests:=tests,laidLooks:=Lk}:=by
 have h6:Claim7.isSixth {stood:={row:=c,standIns:=[],harness:=har,looks:=lk},kinds:=[]} = false:=by simpa[Claim7.isSixth] using hn
 have h1:=Claim7.tied_new_at Lk kinds tests (Claim7.new_of_sixth hc har lk U7 hnb hm h6 hl) hw;unfold Claim7.holds;refine Ai h1 (Ai ?_ (Ai htie (Ai ?_ hg)));intro D hD;cases hD;intro h;cases h
end Go.Proofs.YtgigkennhdolpaaGreatDoor
namespace Go.Proofs.YtgigkennhdolpaaGreatDoor
open Go.ChangeShapes Go.WideShapes Go.ChangeAt Go.RowKit
def wU(rec:DataW Unit->Option (List Value)):List (DataW Unit)->Option (List Value)
 | []=>some []
 | d::r=>match rec d,wU rec r with|some a,some b=>some (a++b)|_,_=>none
def ta(rec:Nat->DataW Unit->Option (List Value))(T:List (Nat×TI))(total:Nat):Nat->List (Nat×Nat)->List (DataW Unit)->Option (List Value)
 | off,[],l=>match l,Nat.beq off total with|[],true=>some []|_,_=>none
 | off,(o,t)::r,l=>match l with
  | []=>none
  | d::ds=>match Nat.beq o off,rec t d,look T t with
   | true,some a,some ti=>match ta rec T total (off+ti.sz) r ds with|some b=>some (a++b)|none=>none
   | _,_,_=>none
def y9(T:List (Nat×TI)):Nat->Nat->DataW Unit->Option (List Value)
 | 0,_,_=>none
 | D+1,t,d=>match look T t with
  | none=>none
  | some ti=>match ti.k,d with
   | .int _,.lit (.int k n)=>some [.int k n]
   | .arr n e,.agg l=>match look T e with
    | some ei=>match Nat.beq (n*ei.sz) ti.sz with|true=>wU (y9 T D e) l|false=>none
    | none=>none
   | .struct fs,.agg l=>ta (y9 T D) T ti.sz 0 fs l
   | _,_=>none
section
variable {PP:Program}{C:Cx PP}{W:World}{sp:Nat->Bool}{held:Bool}
theorem y8{rec:DataW Unit->Option (List Value)}{sz:Nat}{cs:List Value} : ∀{l:List (DataW Unit)} {vs:List Value} {i:Nat},wU rec l=some vs->(∀j d,l[j]? = some d->∀a,rec d=some a->(cs.drop ((i+j)*sz)).take sz=a)->cs.length=(i+l.length)*sz->cs.drop (i*sz)=vs
 | [],vs,i,h,_,hl=>by obtain rfl:=Oi h;rw[List.drop_of_length_le (by rw[hl];simp)]
 | d::r,vs,i,h,hk,hl=>by
  simp only[wU] at h;split at h
  ·rename_i a b ha hb;obtain rfl:=Oi h;have h1:=hk 0 d rfl a ha;rw[Nat.add_zero] at h1;have h2:=y8 (i:=i+1) hb (λj d' hj a' ha'=>by
    have:=hk (j+1) d' hj a' ha'
    rwa [show i+(j+1)=i+1+j by omega] at this) (by rw[hl];simp only[List.length_cons];congr 1;omega)
   rw[<-h1,<-h2,Nat.succ_mul,<-List.drop_drop,List.take_append_drop]
  cases h
theorem DX{rec:Nat->DataW Unit->Option (List Value)}{total:Nat}{cs:List Value}(XF:cs.length=total):∀{fs:List (Nat×Nat)} {l:List (DataW Unit)} {vs:List Value} {off:Nat},ta rec C.T total off fs l=some vs->
  (∀(j:Nat) (f:Nat×Nat) (d:DataW Unit),fs[j]? = some f->l[j]? = some d->∀a,rec f.2 d=some a->(cs.drop f.1).take (C.P.cellsOf f.2)=a)->cs.drop off=vs
 | [],l,vs,off,h,hk=>by simp only[ta] at h;split at h;rename_i hb;obtain rfl:=Oi h;have:=Nb hb;rw[List.drop_of_length_le (by omega)];cases h
 | (o,t)::r,l,vs,off,h,hk=>by simp only[ta] at h;split at h;cases h;rename_i d ds;split at h;rename_i a ti hb ha VL;split at h;rename_i b V5;obtain rfl:=Oi h;obtain rfl:=Nb hb;have h1:=hk 0 (o,t) d rfl rfl a ha;rw[iK VL] at h1;have h2:=DX XF (off:=o+ti.sz) V5 (λj f d' hf hd=>hk (j+1) f d' hf hd);rw[<-h1,<-h2,<-List.drop_drop,List.take_append_drop];cases h;cases h
theorem pc:∀(D t:Nat) (d:DataW Unit) (vs:List Value),y9 C.T D t d=some vs->∀(fuel:Nat) (cs:List Value) (p:List MemPlace),DataW.trod (λ_=>()) C.P W 0 sp held fuel t cs=some (d,p)->cs=vs
 | 0,t,d,vs,h,_,_,_,_=>by cases h
 | D+1,t,d,vs,h,fuel,cs,p,hx=>by
  simp only[y9] at h;split at h;cases h;rename_i ti VL;obtain⟨dd,hu,hk⟩:=mC VL;split at h;rename_i k0 k n X9;rw[X9] at hk;obtain rfl:=tz hk;obtain rfl:=Oi h;obtain⟨m,c1,c2,-⟩:=DataW.trod_int hu hx;have e:=Uv Prod.fst c2;simp only[DataW.lit.injEq,Lit.int.injEq] at e;obtain⟨rfl,rfl⟩:=e;exact c1
  ·rename_i n e l X9;rw[X9] at hk;obtain rfl:=tA hk;obtain⟨xs,m,-,hxe,hlen,hxl,YS⟩:=DataW.trod_array hu hx;have e1:=Uv Prod.fst hxe;simp only[DataW.agg.injEq] at e1;subst e1;split at h
   ·rename_i ei VG;split at h
    ·rename_i hb;have hb:=Nb hb;rw[iK VL,<-hb] at hlen;rw[iK VG] at YS;have:=y8 (sz:=ei.sz) (cs:=cs) (i:=0) h (λj d' hj a ha=>by
      rw[List.getElem?_map] at hj;cases hxj:xs[j]? with
      | none=>rw[hxj] at hj;cases hj
      | some y=>
       rw[hxj] at hj;have hj:y.1=d':=Oi hj;have hjn:j<n:=(by rw[<-hxl];exact(J'.1 hxj).1);have h1:=YS j hjn;rw[hxj] at h1;rw[B'];exact pc D e y.1 a (by rw[hj];exact ha) m _ y.2 h1) (by rw[hlen];simp[hxl])
     simpa using this
    cases h
   cases h
  ·rename_i fs l X9;rw[X9] at hk;obtain⟨fa,rfl,hfa⟩:=mc hk;obtain⟨xs,m,-,hxe,hlen,hxl,hg⟩:=DataW.trod_struct hu hx;have e1:=Uv Prod.fst hxe;simp only[DataW.agg.injEq] at e1;subst e1;rw[iK VL] at hlen;have:=DX (C:=C) hlen h (λj f d' hf hj a ha=>by
    rw[List.getElem?_map] at hj;cases hxj:xs[j]? with
    | none=>rw[hxj] at hj;cases hj
    | some y=>
     rw[hxj] at hj;have hj:y.1=d':=Oi hj;rw[<-hfa,List.getElem?_map] at hf;cases hfj:fa.toList[j]? with
     | none=>rw[hfj] at hf;cases hf
     | some ff=>
      rw[hfj] at hf;obtain rfl:(ff.offset,ff.type)=f:=Oi hf;have h1:=hg j ff (by rw[<-Array.getElem?_toList];exact hfj);rw[hxj] at h1;exact pc D ff.type y.1 a (by rw[hj];exact ha) m _ y.2 h1)
   simpa using this
  cases h
theorem Dy:∀{l:List (String×DataW Unit)} {ps:List MemPlace} {n:String} {d:DataW Unit},DataW.LaidVars C.P W l ps->(n,d)∈l->∃g t cs fuel p,C.P.globalNamed n=some g∧(C.P.globals[g]?).map (·.type)=some t∧W.var? C.P n=some cs∧DataW.trod (λ_=>()) C.P W 0 (λ_=>true) false fuel t cs.toList=some (d,p)
 | [],ps,n,d,h,hm=>by cases hm
 | (n',d')::r,ps,n,d,h,hm=>by obtain⟨g,t,cs,fuel,p,q,e1,e2,e3,e4,hr,-⟩:=h;rcases UI.1 hm with hm|hm;obtain⟨rfl,rfl⟩:=P' hm;exact⟨g,t,cs,fuel,p,e1,e2,e3,e4⟩;exact Dy hr hm
theorem BC{l:List (String×DataW Unit)}{n:String}{d:DataW Unit}{g t:Nat}{vs:List Value}(h:laidMetH C.P l W)(hm:(n,d)∈l)(hd:d.handleName?.isNone=true)(hg:C.P.globalNamed n=some g)(ht:(C.P.globals[g]?).map (·.type)=some t)(hv:y9 C.T 6 t d=some vs) :
  ∀(i:Nat) (v:Value),vs[i]? = some v->W.cell? ⟨g,i,none⟩=some v:=by
 obtain⟨ps,hV,-⟩:=(laidMetH_iff.1 h).1;obtain⟨g',t',cs,fuel,p,e1,e2,e3,e4⟩:=Dy (C:=C) hV (List.mem_filter.2 ⟨hm,hd⟩);rw[hg] at e1;obtain rfl:=Oi e1;rw[ht] at e2;obtain rfl:=Oi e2;intro i v hi;rw[World.var?_cell hg e3 i];have:=pc 6 t d vs hv fuel cs.toList p e4;rw[<-this] at hi;simpa using hi
end
end Go.Proofs.YtgigkennhdolpaaGreatDoor
