/- A region that draws its order, walked once, operation by operation. -/
import Derived.Test.YtgigkennhdolpaaGreatDoorM0
import Derived.StillTail
import Derived.Test.YtgigkennhdolpaaGreatDoorM10
namespace Go.Proofs.YtgigkennhdolpaaGreatDoor
open Go.RowKit
section
variable {P:Program}
end
section
variable {P:Program}{ops:Array Oper}{Q:Exit->Act->World->Prop}
def D8(ops:Array Oper)(n:Nat):Bool:=
 (List.range n).all λi=>match ops[i]? with|some o=>o.after.all λe=>!Region.binds .any e||decide (e.on<i)|none=>true
def sM(n g:Nat):Array Bool:=(List.replicate n true++List.replicate g false).toArray
def xV(ops:Array Oper)(n:Nat):Bool:=
 decide (n<ops.size)&&Region.sinkB .any ops n&&Region.chainB .any ops n&&D8 ops n&&Region.seqB .any ops (ops.size-n) n (sM n (ops.size-n))
def cnt(listed:Array Bool)(n:Nat):Nat:=(List.range n).countP λi=>!listed.getD i false
theorem tw{f g:Nat->Bool}{i:Nat}(hf:f i=true)(hg:g i=false)(he:∀j,j≠i->g j=f j):∀n,(List.range n).countP g+(if i<n then 1 else 0)=(List.range n).countP f
 | 0=>by simp
 | n+1=>by rw[List.range_succ,List.countP_append,List.countP_append];have ih:=tw hf hg he n;by_cases h:n=i;subst h;simp[hf,hg] at ih ⊢;omega;have e:=he n h;simp only[List.countP_cons,List.countP_nil,e];generalize (if f n=true then 1 else 0)=z;by_cases h1:i<n;rw[Uw h1] at ih;rw[Uw (by omega)];omega;rw[Uv h1] at ih;rw[Uv (by omega)];omega
theorem No{listed:Array Bool}{n i:Nat}(hi:i<n)(hs:i<listed.size)(hu:listed.getD i false=false):cnt (listed.setIfInBounds i true) n+1=cnt listed n:=by have:=tw (f:=λj=>!listed.getD j false) (g:=λj=>!(listed.setIfInBounds i true).getD j false) (i:=i) (by simpa using hu) (by simp[hs]) (λj hj=>by show (!(listed.setIfInBounds i true).getD j false)=_;rw[getD_set_ne false (Ne.symm hj)]) n;rw[Uw hi] at this;exact this
theorem J3{listed:Array Bool}{n:Nat}(h:cnt listed n=0)(i:Nat)(hi:i<n):listed.getD i false=true:=by have:=List.countP_eq_zero.1 h i (List.mem_range.2 hi);simpa using this
theorem Np{listed:Array Bool}{n r:Nat}(h:cnt listed n=r+1):∃i,i<n∧listed.getD i false=false:=by
 have:0<(List.range n).countP λi=>!listed.getD i false:=by have h':(List.range n).countP (λi=>!listed.getD i false)=r+1:=h;omega
 obtain⟨i,hi,hu⟩:=List.countP_pos_iff.1 this;exact⟨i,List.mem_range.1 hi,by simpa using hu⟩
theorem AL{listed:Array Bool}{n:Nat}(hb:D8 ops n=true)(hn:n<=ops.size)(Xc:listed.size=ops.size):∀(i:Nat),i<n->listed.getD i false=false->Region.ready .any ops listed≠[]:=by
 intro i
 induction i using Nat.strongRecOn with
 | _ i ih=>
  intro hi hu he;have ho:ops[i]? = some (ops[i]'(by omega)):=Uj (by omega);by_cases U1:∃e,e∈(ops[i]'(by omega)).after∧Region.binds .any e=true∧listed.getD e.on false=false
  rotate_left
  ·have:i∈Region.ready .any ops listed:=mem_ready.2 ⟨getD_in (by omega) hu,_,ho,λe hm hbd=>by
    cases hl:listed.getD e.on false with
    | true=>rfl
    | false=>exact Up ⟨e,hm,hbd,hl⟩ U1⟩
   rw[he] at this;cases this
  obtain⟨e,hm,hbd,hl⟩:=U1;have h1:=List.all_eq_true.1 hb i (List.mem_range.2 hi);rw[ho] at h1;have h2:=Array.all_eq_true'.1 h1 e hm;simp only[hbd,Bool.not_true,Bool.false_or,Uq] at h2;exact ih e.on h2 (by omega) hl he
theorem full_of{listed:Array Bool}{n:Nat}(inv:HeadInv .any ops n listed)(hn:n<ops.size)(h0:∀i,i<n->listed.getD i false=true):listed=sM n (ops.size-n):=by
 apply Array.ext_getElem?;intro i;have ea:∀l:List Bool,l.toArray[i]? = l[i]?:=λl=>by simp
 unfold sM;rw[ea (List.replicate n true++List.replicate (ops.size-n) false)];rcases Nat.lt_or_ge i n with h|h;have h1:=h0 i h;rw[M' (by simpa using h)];have hs:i<listed.size:=(by rw[inv.size];omega);rw[Uj hs];simp[hs] at h1;simp[h1,h];rw[O' (by simpa using h)];simp only[List.length_replicate];rcases Nat.lt_or_ge i ops.size with h2|h2;have h1:=inv.tail i h h2;have hs:i<listed.size:=(by rw[inv.size];omega);rw[Uj hs];simp[hs] at h1;rw[h1,List.getElem?_replicate,Uw (by omega)];rw[Array.getElem?_eq_none (by rw[inv.size];exact h2),List.getElem?_replicate,Uv (by omega)]
end
section
variable {P:Program}{co:Bool}{ops:Array Oper}{Q:Exit->Act->World->Prop}
theorem mO{md:Region.Mode}{Q':Exit->Act->World->Prop} : ∀(l:List Oper) (k:Nat) (listed:Array Bool) (a:Act) (w:World),(∀j,l[j]? = ops[k+j]?)->
  Region.seqB md ops l.length k listed=true->cz P co ops Q' l a w->lu P co md ops Q' l.length listed a w
 | [],_,_,_,_,_,hB,h=>⟨by simpa[Region.seqB] using hB,h⟩
 | o::l,k,listed,a,w,hl,hB,h=>by have h0:ops[k]? = some o:=(by simpa using (hl 0).symm);simp only[List.length_cons,Region.seqB,Uk,Uq] at hB;refine⟨λh1=>(by rw[hB.1] at h1;cases h1),λi hi=>?_⟩;rw[hB.1] at hi;have hik:i=k:=(by simpa using hi);subst hik;have hw:nU P co ops i (cz P co ops Q' l) a w:=(by unfold nU;simp only[h0];exact h);exact rz (λa' w' h'=>mO l (i+1) _ a' w' (λj=>by have:=hl (j+1);simpa[Nat.add_assoc,Nat.add_comm 1 j] using this) hB.2 h') hw
def jO(ops:Array Oper)(n:Nat):Bool:=match Nat.beq n ops.size with|true=>D8 ops n|false=>xV ops n
theorem Eh{n:Nat}(hB:jO ops n=true)(I:Array Bool->Act->World->Prop)
  (step:∀(listed:Array Bool) (a:Act) (W:World) (i:Nat) (o:Oper),HeadInv .any ops n listed->I listed a W->i<n->ops[i]? = some o->listed.getD i false=false->
   (∀e∈o.after,Region.binds .any e=true->listed.getD e.on false=true)->∀K:Act->World->Prop,(∀a' W',I (listed.setIfInBounds i true) a' W'->K a' W')->
   if Region.wanted o (yielded ops a.tmps)=true then OpJ P co o a W K else K (a.put o.dst undef) W)
  (fin:∀listed a W,I listed a W->(∀i,i<n->listed.getD i false=true)->cz P co ops Q (ops.toList.drop n) a W) :
  ∀(r:Nat) (listed:Array Bool) (a:Act) (W:World),cnt listed n=r->HeadInv .any ops n listed->I listed a W->lu P co .any ops Q (r+(ops.size-n)) listed a W:=by
 have hn:n<=ops.size∧D8 ops n=true:=by unfold jO at hB;split at hB;rename_i h;have:=Nb h;exact⟨by omega,hB⟩;simp only[xV,Uk,Uq] at hB;exact⟨by omega,hB.1.2⟩
 obtain⟨hn,hb⟩:=hn;intro r
 induction r with
 | zero=>
  intro listed a W hcnt inv hI;have U1:=J3 hcnt;have hf:=fin listed a W hI U1;unfold jO at hB;split at hB
  ·rename_i h;have he:=Nb h;subst he;rw[Nat.sub_self];have hd:ops.toList.drop ops.size=[]:=(by simp);rw[hd] at hf;refine⟨?_,hf⟩;cases hr:Region.ready .any ops listed with
   | nil=>rfl
   | cons x xs=>
    have hx:x∈Region.ready .any ops listed:=(by rw[hr];exact Um);obtain⟨hu,o,ho,_⟩:=mem_ready.1 hx;have UY:x<ops.size:=(E'.1 ho).1;have:=U1 x UY;rw[getD_both hu] at this;cases this
  simp only[xV,Uk,Uq] at hB;obtain⟨⟨⟨⟨hn,hs⟩,hc⟩,hb⟩,hq⟩:=hB;have Y3:(ops.toList.drop n).length=ops.size-n:=(by simp);have:=mO (P:=P) (md:=.any) (Q':=Q) (ops.toList.drop n) n listed a W (λj=>by simp[List.getElem?_drop])
   (by rw[Y3,full_of inv hn U1];exact hq) hf
  rwa [Y3,<-B' (ops.size-n)] at this
 | succ r ih=>
  intro listed a W hcnt inv hI;obtain⟨u,hu,hun⟩:=Np hcnt;rw[show r+1+(ops.size-n)=(r+(ops.size-n))+1 by omega];refine⟨λhe=>Up he (AL hb hn inv.size u hu hun),λi hi=>?_⟩;obtain⟨hiu,o,ho,hdeps⟩:=mem_ready.1 hi;have Xr:i<n:=(by unfold jO at hB;split at hB;rename_i h;have he:=Nb h;have UY:i<ops.size:=(E'.1 ho).1;omega;simp only[xV,Uk,Uq] at hB;obtain⟨⟨⟨⟨hn,hs⟩,hc⟩,hb⟩,hq⟩:=hB;rcases Nat.lt_or_ge i n with h|h;exact h;exact Up hi (tail_waits hs hc hn inv (n-u) u rfl hu (getD_in (by rw[inv.size];omega) hun) i h));have Xc:i<listed.size:=(by rw[inv.size];omega);have hK:=step listed a W i o inv hI Xr ho (getD_both hiu) hdeps
   (λa' W'=>lu P co .any ops Q (r+(ops.size-n)) (listed.setIfInBounds i true) a' W')
   (λa' W' h'=>ih _ a' W' (by have:=No Xr Xc (getD_both hiu);omega) (inv.set hi Xr) h')
  unfold nU;rw[ho];show if Region.wanted o (yielded ops a.tmps)=true then _ else _;split;rename_i hw;rw[Uw hw] at hK;exact hK;rename_i hw;rw[Uv hw] at hK;exact hK
theorem nu{n:Nat}{a:Act}{w:World}(hB:jO ops n=true)(I:Array Bool->Act->World->Prop)
  (h0:I (Array.replicate ops.size false) a w)
  (step:∀(listed:Array Bool) (a:Act) (W:World) (i:Nat) (o:Oper),HeadInv .any ops n listed->I listed a W->i<n->ops[i]? = some o->listed.getD i false=false->
   (∀e∈o.after,Region.binds .any e=true->listed.getD e.on false=true)->∀K:Act->World->Prop,(∀a' W',I (listed.setIfInBounds i true) a' W'->K a' W')->
   if Region.wanted o (yielded ops a.tmps)=true then OpJ P co o a W K else K (a.put o.dst undef) W)
  (fin:∀listed a W,I listed a W->(∀i,i<n->listed.getD i false=true)->cz P co ops Q (ops.toList.drop n) a W) :
  lu P co .any ops Q ops.size (Array.replicate ops.size false) a w:=by
 have hn:n<=ops.size:=by unfold jO at hB;split at hB;rename_i h;have:=Nb h;omega;simp only[xV,Uk,Uq] at hB;omega
 have hcnt:cnt (Array.replicate ops.size false) n=n:=by have:(List.range n).countP (λi=>!(Array.replicate ops.size false).getD i false)=(List.range n).length:=List.countP_eq_length.2 λi _=>(by rw[getD_replicate_false];rfl);unfold cnt;rw[this,List.length_range]
 have:=Eh (P:=P) (Q:=Q) hB I step fin n (Array.replicate ops.size false) a w hcnt
  ⟨by simp,λj oj _ hl=>(by rw[getD_replicate_false] at hl;cases hl),λt _ ht=>getD_in (by simpa using ht) (getD_replicate_false _ _)⟩ h0
 rwa [show n+(ops.size-n)=ops.size by omega] at this
end
structure Slot where
 rg:Nat
 k:Nat
 g:List (Nat×Bool)
 v:SV
structure St where
 sl:List (Nat×Slot)
 H:aY
 nm:Nat
 rg:Nat
  /-- In a drawn region: X5 names Yu are read, X5 names Yu are written, and by which operation. -/
 rd:List (Nat×Nat):=[]
 ws:List (Nat×Nat):=[]
def bZ:Value->SV
 | .int k n=>.il k n
 | .bool b=>.bl b
 | x=>.v x
theorem jk{ρ:Names}{x:Value} : den ρ (bZ x) x:=by unfold bZ;split<;>rfl
def Hj:Bool->Bool->Bool
 | true,true=>true
 | false,false=>true
 | _,_=>false
theorem Hi{a b:Bool}(h:Hj a b=true):a=b:=by cases a<;>cases b<;>first|rfl|cases h
def xh(p:Nat×Bool):List (Nat×Bool)->Bool
 | []=>false
 | q::r=>match Nat.beq p.1 q.1,Hj p.2 q.2 with|true,true=>true|_,_=>xh p r
theorem tF{p:Nat×Bool} : ∀{l:List (Nat×Bool)},xh p l=true->p∈l
 | [],h=>by cases h
 | q::r,h=>by simp only[xh] at h;split at h;rename_i h1 h2;have e1:=Nb h1;have e2:=Hi h2;have:p=q:=Prod.ext e1 e2;rw[this];exact Um;exact Ux _ (tF h)
def Hb:List (Nat×Bool)->List (Nat×Bool)->Bool
 | [],_=>true
 | p::r,m=>match xh p m with|true=>Hb r m|false=>false
theorem n7:∀{l m:List (Nat×Bool)},Hb l m=true->∀p∈l,p∈m
 | [],m,_,p,hp=>by cases hp
 | q::r,m,h,p,hp=>by simp only[Hb] at h;split at h;rename_i h1;rcases UB.1 hp with rfl|hp;exact tF h1;exact n7 h p hp;cases h
def gE(o:Oper)(j:Nat):Bool:=o.after.toList.any λe=>Region.binds .any e&&Nat.beq e.on j
theorem gu{o:Oper}{j:Nat}(h:gE o j=true):∃e∈o.after,Region.binds .any e=true∧e.on=j:=by obtain⟨e,he,hb⟩:=List.any_eq_true.1 h;simp only[Uk] at hb;exact⟨e,by simpa using he,hb.1,Nb hb.2⟩
def lO(k t:Nat):List Oper->Bool
 | []=>true
 | o::r=>match o.dst with
  | none=>lO k t r
  | some d=>match Nat.beq d t with
   | false=>lO k t r
   | true=>match gE o k with|true=>lO k t r|false=>false
theorem pA{k t:Nat} : ∀{l:List Oper},lO k t l=true->∀(i:Nat) (o:Oper),l[i]? = some o->o.dst=some t->gE o k=true
 | [],_,i,o,hi,_=>by simp at hi
 | p::r,h,i,o,hi,hd=>by
  cases i with
  | zero=>
   obtain rfl:p=o:=(by simpa using hi);simp only[lO,hd,UG] at h;split at h;assumption;cases h
  | succ i=>
   refine pA (l:=r) ?_ i o (by simpa using hi) hd;simp only[lO] at h;split at h;exact h;split at h;exact h;split at h;exact h;cases h
def mI(any:Bool)(heads:List Oper)(k:Nat)(rg:Nat)(sl:List (Nat×Slot))(o:Oper)(gk:List (Nat×Bool)):ZD:=λex x=>
 match x with
 | .const v=>some (bZ v)
 | .global g=>some (.v (.pointer (some ⟨g,0,none⟩)))
 | .func f=>some (.v (.func (.func f) #[] #[]))
 | .tmp t=>match look sl t with
  | none=>none
  | some ⟨Yc,sk,sg,sv⟩=>match Nat.beq Yc rg with
   | true=>match Hb sg (ex++gk) with
    | true=>match any with
     | true=>match gE o sk with|true=>some sv|false=>none
     | false=>some sv
    | false=>none
   | false=>match sg with
    | []=>match any with
     | true=>match lO k t heads with|true=>some sv|false=>none
     | false=>some sv
    | _::_=>none
theorem rW{any:Bool}{heads:List Oper}{k rg:Nat}{sl:List (Nat×Slot)}{o:Oper}{gk:List (Nat×Bool)}{ex:List (Nat×Bool)}{x:Operand} : mI any heads k rg sl o gk ex x=match x with
 | .const v=>some (bZ v)
 | .global g=>some (.v (.pointer (some ⟨g,0,none⟩)))
 | .func f=>some (.v (.func (.func f) #[] #[]))
 | .tmp t=>match look sl t with
  | none=>none
  | some s=>match Nat.beq s.rg rg with
   | true=>match Hb s.g (ex++gk) with
    | true=>match any with
     | true=>match gE o s.k with|true=>some s.v|false=>none
     | false=>some s.v
    | false=>none
   | false=>match s.g with
    | []=>match any with
     | true=>match lO k t heads with|true=>some s.v|false=>none
     | false=>some s.v
    | _::_=>none:=by
 cases x with
 | tmp t=>
  simp only[mI];cases look sl t with
  | none=>rfl
  | some s=>cases s;rfl
 | _=>rfl
def guardOf(any:Bool)(ops:List Oper)(rg:Nat)(sl:List (Nat×Slot))(o:Oper):Option (List (Nat×Bool)):=
 match o.guard with
 | none=>some []
 | some (j,U')=>match ops[j]? with
  | none=>none
  | some oj=>match oj.dst with
   | none=>none
   | some t=>match look sl t with
    | none=>none
    | some s=>match Nat.beq s.rg rg,Nat.beq s.k j with
     | true,true=>match any with
      | true=>match gE o j with|true=>some ((t,U')::s.g)|false=>none
      | false=>some ((t,U')::s.g)
     | _,_=>none
def sI(sl:List (Nat×Slot)):List (Nat×Bool)->Prop->Prop
 | [],p=>p
 | (t,U')::r,p=>match look sl t with
  | none=>sI sl r p
  | some s=>match s.v.bool? with
   | none=>sI sl r p
   | some b=>b=U'->sI sl r p
def IX(sl:List (Nat×Slot))(g:List (Nat×Bool)):Option Prop->Option Prop
 | none=>none
 | some p=>match g with|[]=>some p|_::_=>some (sI sl g p)
def mr(rg:Nat)(sl:List (Nat×Slot))(d:Nat):Bool:=
 match look sl d with
 | none=>true
 | some s=>match Nat.beq s.rg rg with|true=>false|false=>true
mutual
def dH:SV->List Nat
 | .p n _=>[n]
 | .s n _ _ _ _=>[n]
 | .g m _ _ _ _=>[m]
 | .gp m _ _ _ _=>[m]
 | .kd m _ _ _ _=>[m]
 | .kq m _ _ _ _=>[m]
 | .m n=>[n]
 | .f _ x y=>gA x++gA y
 | .agg l=>gA l
 | .tup l=>gA l
 | .v _=>[]
 | .il _ _=>[]
 | .bl _=>[]
 | .e=>[]
 | .rs _ _ _=>[]
 | .rp _ _=>[]
def gA:List SV->List Nat
 | []=>[]
 | x::r=>dH x++gA r
end
def wq(H:aY):List Nat->List Nat
 | []=>[]
 | n::r=>match look H n with|some (.lay cs _)=>gA cs++wq H r|_=>wq H r
def reach:Nat->aY->List Nat->List Nat
 | 0,_,l=>l
 | k+1,H,l=>match l with
  | []=>[]
  | n::r=>(n::r)++reach k H (wq H (n::r))
def Cu(op:ZD)(H:aY):Op->List Nat
 | .load _ x=>match op [] x with|some v=>dH v|none=>[]
 | .store _ x _=>match op [] x with|some v=>dH v|none=>[]
 | .lookup _ x _ _=>match op [] x with|some v=>dH v|none=>[]
 | .mapUpdate _ x _ _=>match op [] x with|some v=>dH v|none=>[]
 | .call c=>match c.callee with
  | .value f=>match op [] f,YW op c.args.toList with|some sf,some l=>reach 4 H (dH sf++gA l)|_,_=>[]
  | .builtin .append=>match YW op c.args.toList with|some l=>gA l|none=>[]
  | .builtin .clear=>match YW op c.args.toList with|some l=>gA l|none=>[]
  | _=>[]
 | _=>[]
def restrict(H:aY):List Nat->aY
 | []=>[]
 | n::r=>match look H n with|some sb=>(n,sb)::restrict H r|none=>restrict H r
theorem jv{H:aY} : ∀{l:List Nat} {n:Nat} {sb:SB},look (restrict H l) n=some sb->n∈l∧look H n=some sb
 | [],n,sb,h=>by simp[restrict,look] at h
 | m::r,n,sb,h=>by simp only[restrict] at h;split at h;rename_i Vu hsb;by_cases e:m=n;subst e;rw[af] at h;rw[Oi h] at hsb;exact⟨Um,hsb⟩;rw[ab _ _ e] at h;have:=jv h;exact⟨Ux _ this.1,this.2⟩;have:=jv h;exact⟨Ux _ this.1,this.2⟩
def Kj(ops:List Oper):Nat->Nat->Nat->Bool
 | 0,_,_=>false
 | k+1,i,j=>match ops[i]? with
  | none=>false
  | some o=>match gE o j with|true=>true|false=>o.after.toList.any λe=>Region.binds .any e&&Kj ops k e.on j
def qw(ops:List Oper)(i n:Nat):List (Nat×Nat)->Bool
 | []=>true
 | (m,j)::r=>match Nat.beq m n with
  | true=>match Kj ops 5 i j with|true=>qw ops i n r|false=>false
  | false=>qw ops i n r
def xt(ops:List Oper)(i:Nat)(ws:List (Nat×Nat)):List Nat->Bool
 | []=>true
 | n::r=>match qw ops i n ws with|true=>xt ops i ws r|false=>false
def rdN(any:Bool)(op:ZD)(H:aY)(o:Op):Option (List Nat):=
 match any with
 | false=>some []
 | true=>laid (Cu op H o)
def C8(any:Bool)(H:aY)(R:List Nat):aY:=match any with|true=>restrict H R|false=>H
def Oj(any:Bool)(ops:List Oper)(k:Nat)(R:List Nat)(ws:List (Nat×Nat)):Bool:=match any with|true=>xt ops k ws R|false=>true
def EE(w:Option (Nat×SB))(H:aY):aY:=match w with|none=>H|some x=>x::H
def k9(fr:Bool)(nm:Nat):Nat:=match fr with|true=>nm+1|false=>nm
def Lx(any:Bool)(w:Option (Nat×SB))(k:Nat)(ws:List (Nat×Nat)):List (Nat×Nat):=match any,w with|true,some (n,_)=>(n,k)::ws|_,_=>ws
def JO(k:Nat):List Nat->List (Nat×Nat)->List (Nat×Nat)
 | [],l=>l
 | n::r,l=>(n,k)::JO k r l
def Pm(any:Bool)(k:Nat)(R:List Nat)(rd:List (Nat×Nat)):List (Nat×Nat):=match any with|true=>JO k R rd|false=>rd
def wrB(any:Bool)(ops:List Oper)(k:Nat)(g:List (Nat×Bool))(w:Option (Nat×SB))(fr:Bool)(nm:Nat)(rd ws:List (Nat×Nat)):Bool:=
 match w with
 | none=>match fr with|true=>false|false=>true
 | some (n,_)=>match g,Nat.blt n (k9 fr nm) with
  | [],true=>match any with
   | false=>true
   | true=>match qw ops k n ws with|true=>qw ops k n rd|false=>false
  | _,_=>false
def zr(nt rg:Nat)(sl:List (Nat×Slot))(o:Oper):Bool:=
 match o.dst with
 | none=>true
 | some d=>match wJ o.op,Nat.blt d nt with|false,true=>mr rg sl d|_,_=>false
def ED(rg k:Nat)(g:List (Nat×Bool))(v:SV)(dst:Option Nat)(sl:List (Nat×Slot)):List (Nat×Slot):=match dst with|none=>sl|some d=>(d,⟨rg,k,g,v⟩)::sl
inductive Bx (α:Type) where
 | mk (x:α)
 | no
def yK(n:Nat):Bx Nat:=match n with|0=>.mk 1|m+1=>.mk (m+2)
theorem kK{n:Nat} : yK n=.mk (n+1):=by cases n<;>rfl
def Br(n:Nat):Bx Nat:=match n with|0=>.mk 0|m+1=>.mk (m+1)
def Bs(n:Int):Bx Int:=match n with
 | .ofNat m=>match Br m with|.mk m'=>.mk (.ofNat m')|.no=>.no
 | .negSucc m=>match Br m with|.mk m'=>.mk (.negSucc m')|.no=>.no
def I6(x:Value):Bx SV:=match x with
 | .int k n=>.mk (.v (.int k n))
 | .bool b=>.mk (.v (.bool b))
 | y=>.mk (.v y)
mutual
def nK:SV->Bx SV
 | .v x=>I6 x
 | .il k n=>match Bs n with|.mk n'=>.mk (.il k n')|.no=>.no
 | .agg l=>match kO l with|.mk l'=>.mk (.agg l')|.no=>.no
 | .tup l=>match kO l with|.mk l'=>.mk (.tup l')|.no=>.no
 | .f fn x y=>match kO x,kO y with|.mk x',.mk y'=>.mk (.f fn x' y')|_,_=>.no
 | .bl b=>.mk (.bl b)
 | .p n off=>.mk (.p n off)
 | .s n sz off len cap=>.mk (.s n sz off len cap)
 | .e=>.mk .e
 | .rs sz n h=>.mk (.rs sz n h)
 | .rp x off=>.mk (.rp x off)
 | .g m e sz off n=>.mk (.g m e sz off n)
 | .gp m e sz i off=>.mk (.gp m e sz i off)
 | .kd m i sz off n=>.mk (.kd m i sz off n)
 | .kq m i sz j off=>.mk (.kq m i sz j off)
 | .m n=>.mk (.m n)
def kO:List SV->Bx (List SV)
 | []=>.mk []
 | x::r=>match nK x,kO r with|.mk x',.mk r'=>.mk (x'::r')|_,_=>.no
end
theorem E6{n:Nat} : Br n=.mk n:=by cases n<;>rfl
theorem E7{n:Int} : Bs n=.mk n:=by cases n<;>simp only[Bs,E6]
theorem E5{x:Value} : I6 x=.mk (.v x):=by cases x<;>rfl
mutual
theorem u0:∀(x:SV),nK x=.mk x
 | .v x=>E5
 | .il k n=>by simp only[nK,E7]
 | .agg l=>by simp only[nK,fN l]
 | .tup l=>by simp only[nK,fN l]
 | .f fn x y=>by simp only[nK,fN x,fN y]
 | .bl b=>rfl
 | .p _ _=>rfl
 | .s _ _ _ _ _=>rfl
 | .e=>rfl
 | .rs _ _ _=>rfl
 | .rp _ _=>rfl
 | .g _ _ _ _ _=>rfl
 | .gp _ _ _ _ _=>rfl
 | .kd _ _ _ _ _=>rfl
 | .kq _ _ _ _ _=>rfl
 | .m _=>rfl
theorem fN:∀(x:List SV),kO x=.mk x
 | []=>rfl
 | x::r=>by simp only[kO,u0 x,fN r]
end
def qb(rg k:Nat)(g:List (Nat×Bool))(v:SV)(dst:Option Nat)(sl:List (Nat×Slot)):Bx (List (Nat×Slot)):=match dst with
 | none=>.mk sl
 | some d=>match nK v with|.mk v'=>.mk ((d,⟨rg,k,g,v'⟩)::sl)|.no=>.no
def HR(w:Option (Nat×SB))(H:aY):Bx aY:=match w with
 | none=>.mk H
 | some (n,.lay cs t)=>match kO cs with|.mk X'=>.mk ((n,.lay X' t)::H)|.no=>.no
 | some x=>.mk (x::H)
def On(fr:Bool)(nm:Nat):Bx Nat:=match fr with|true=>yK nm|false=>.mk nm
theorem iP{rg k:Nat}{g:List (Nat×Bool)}{v:SV}{dst:Option Nat}{sl:List (Nat×Slot)} : qb rg k g v dst sl=.mk (ED rg k g v dst sl):=by
 cases dst with
 | none=>rfl
 | some d=>simp only[qb,u0];rfl
theorem HQ{w:Option (Nat×SB)}{H:aY} : HR w H=.mk (EE w H):=by unfold HR;split;rfl;simp only[fN];rfl;rfl
theorem HP{fr:Bool}{nm:Nat} : On fr nm=.mk (k9 fr nm):=by cases fr;rfl;exact kK
def gS{PP:Program}{C:Cx PP}(Γ:List (UO C))(nt:Nat)(any:Bool)(ops heads:List Oper)(k:Nat)(o:Oper):St->Option (St×Option Prop)
 | ⟨sl,H,nm,rg,rd,ws⟩=>match guardOf any ops rg sl o with
  | none=>none
  | some g0=>match laid g0 with
   | none=>none
   | some g=>match rdN any (mI any heads k rg sl o g) H o.op with
    | none=>none
    | some R=>match Oj any ops k R ws,D Γ (fzB g) (mI any heads k rg sl o g) (C8 any H R) nm o.op with
     | true,some ⟨ob,v,w,fr⟩=>match wrB any ops k g w fr nm rd ws,zr nt rg sl o with
      | true,true=>match qb rg k g v o.dst sl,HR w H,On fr nm with
       | .mk Xj,.mk H',.mk Vv=>match any with
        | true=>match laid (Pm true k R rd),laid (Lx true w k ws) with
         | some rd',some ws'=>some (⟨Xj,H',Vv,rg,rd',ws'⟩,IX sl g ob)
         | _,_=>none
        | false=>some (⟨Xj,H',Vv,rg,rd,ws⟩,IX sl g ob)
       | _,_,_=>none
      | _,_=>none
     | _,_=>none
def QV(p:Option Prop)(q:Prop):Prop:=match p with|none=>q|some p=>p∧q
theorem Ea{p:Option Prop}{q:Prop}(h:QV p q):nB p∧q:=by
 cases p with
 | none=>exact⟨trivial,h⟩
 | some p=>exact h
def zk(F:Nat->Oper->St->Option (St×Option Prop)):Nat->List Oper->St->(St->Prop)->Prop
 | _,[],st,K=>K st
 | k,o::r,st,K=>match F k o st with
  | none=>False
  | some (UZ,ob)=>match yK k with|.mk k'=>QV ob (zk F k' r UZ K)|.no=>False
def oS(F:Nat->Oper->St->Option (St×Option Prop))(l:List Oper)(st:St):Nat->St
 | 0=>st
 | i+1=>match l[i]? with
  | none=>oS F l st i
  | some o=>match F i o (oS F l st i) with
   | none=>oS F l st i
   | some (s,_)=>s
theorem sY(F:Nat->Oper->St->Option (St×Option Prop)){l:List Oper}{st0:St}{K:St->Prop} : ∀(r:List Oper) (k:Nat),(∀j,r[j]? = l[k+j]?)->k+r.length=l.length->zk F k r (oS F l st0 k) K->
  (∀i o,k<=i->l[i]? = some o->∃ob,F i o (oS F l st0 i)=some (oS F l st0 (i+1),ob)∧nB ob)∧K (oS F l st0 l.length)
 | [],k,hr,hk,h=>by simp only[List.length_nil,Nat.add_zero] at hk;subst hk;refine⟨λi o hi ho=>?_,h⟩;have:i<l.length:=(J'.1 ho).1;omega
 | o::r,k,hr,hk,h=>by have h0:l[k]? = some o:=(by simpa using (hr 0).symm);simp only[zk,kK] at h;split at h;cases h;rename_i UZ ob hF;obtain⟨h1,h2⟩:=Ea h;have hs:oS F l st0 (k+1)=UZ:=(by simp only[oS,h0,hF]);rw[<-hs] at h2;obtain⟨k1,k2⟩:=sY F r (k+1) (λj=>by have:=hr (j+1);simp only[List.getElem?_cons_succ] at this;rw[this];congr 1;omega) (by simp at hk;omega) h2;refine⟨λi o' hi Ws=>?_,k2⟩;rcases UD hi with rfl|UY;rw[h0] at Ws;obtain rfl:=Oi Ws;exact⟨ob,by rw[hF,hs],h1⟩;exact k1 i o' UY Ws
end Go.Proofs.YtgigkennhdolpaaGreatDoor
