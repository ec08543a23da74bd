/- A region that draws its order, walked once, operation by operation. -/
import Derived.Test.YtgigkennhdolpaaGreatDoorM0
import Derived.StillTail
import Derived.Test.YtgigkennhdolpaaGreatDoorM9
namespace Go.Proofs.YtgigkennhdolpaaGreatDoor
open Go.RowKit
section
variable {P:Program}
end
section
variable {P:Program}{ops:Array Oper}{Q:Exit->Act->World->Prop}
def EA(ops:Array Oper)(n:Nat):Bool:=
 (List.range n).all λi=>match ops[i]? with|some o=>o.after.all λe=>!Region.binds .any e||decide (e.on<i)|none=>true
def sZ(n g:Nat):Array Bool:=(List.replicate n true++List.replicate g false).toArray
def ye(ops:Array Oper)(n:Nat):Bool:=
 decide (n<ops.size)&&Region.sinkB .any ops n&&Region.chainB .any ops n&&EA ops n&&Region.seqB .any ops (ops.size-n) n (sZ n (ops.size-n))
def cnt(listed:Array Bool)(n:Nat):Nat:=(List.range n).countP λi=>!listed.getD i false
theorem tH{f g:Nat->Bool}{i:Nat}(hf:f i=true)(hg:g i=false)(he:∀j,j≠i->g j=f j):∀n,(List.range n).countP g+(if i<n then 1 else 0)=(List.range n).countP f
 | 0=>by simp
 | n+1=>by rw[List.range_succ,List.countP_append,List.countP_append];have ih:=tH hf hg he n;by_cases h:n=i;subst h;simp[hf,hg] at ih ⊢;omega;have e:=he n h;simp only[List.countP_cons,List.countP_nil,e];generalize (if f n=true then 1 else 0)=z;by_cases h1:i<n;rw[UD h1] at ih;rw[UD (by omega)];omega;rw[UC h1] at ih;rw[UC (by omega)];omega
theorem On{listed:Array Bool}{n i:Nat}(hi:i<n)(hs:i<listed.size)(hu:listed.getD i false=false):cnt (listed.setIfInBounds i true) n+1=cnt listed n:=by have:=tH (f:=λj=>!listed.getD j false) (g:=λj=>!(listed.setIfInBounds i true).getD j false) (i:=i) (by simpa using hu) (by simp[hs]) (λj hj=>by show (!(listed.setIfInBounds i true).getD j false)=_;rw[getD_set_ne false (Ne.symm hj)]) n;rw[UD hi] at this;exact this
theorem KO{listed:Array Bool}{n:Nat}(h:cnt listed n=0)(i:Nat)(hi:i<n):listed.getD i false=true:=by have:=List.countP_eq_zero.1 h i (List.mem_range.2 hi);simpa using this
theorem Oo{listed:Array Bool}{n r:Nat}(h:cnt listed n=r+1):∃i,i<n∧listed.getD i false=false:=by
 have:0<(List.range n).countP λi=>!listed.getD i false:=by have h':(List.range n).countP (λi=>!listed.getD i false)=r+1:=h;omega
 obtain⟨i,hi,hu⟩:=List.countP_pos_iff.1 this;exact⟨i,List.mem_range.1 hi,by simpa using hu⟩
theorem A9{listed:Array Bool}{n:Nat}(hb:EA ops n=true)(hn:n<=ops.size)(Xl:listed.size=ops.size):∀(i:Nat),i<n->listed.getD i false=false->Region.ready .any ops listed≠[]:=by
 intro i
 induction i using Nat.strongRecOn with
 | _ i ih=>
  intro hi hu he;have ho:ops[i]? = some (ops[i]'(by omega)):=Uq (by omega);by_cases Vb:∃e,e∈(ops[i]'(by omega)).after∧Region.binds .any e=true∧listed.getD e.on false=false
  rotate_left
  ·have:i∈Region.ready .any ops listed:=mem_ready.2 ⟨getD_in (by omega) hu,_,ho,λe hm hbd=>by
    cases hl:listed.getD e.on false with
    | true=>rfl
    | false=>exact Uw ⟨e,hm,hbd,hl⟩ Vb⟩
   rw[he] at this;cases this
  obtain⟨e,hm,hbd,hl⟩:=Vb;have h1:=List.all_eq_true.1 hb i (List.mem_range.2 hi);rw[ho] at h1;have h2:=Array.all_eq_true'.1 h1 e hm;simp only[hbd,Bool.not_true,Bool.false_or,Ux] at h2;exact ih e.on h2 (by omega) hl he
theorem full_of{listed:Array Bool}{n:Nat}(inv:HeadInv .any ops n listed)(hn:n<ops.size)(h0:∀i,i<n->listed.getD i false=true):listed=sZ n (ops.size-n):=by
 apply Array.ext_getElem?;intro i;have ea:∀l:List Bool,l.toArray[i]? = l[i]?:=λl=>by simp
 unfold sZ;rw[ea (List.replicate n true++List.replicate (ops.size-n) false)];rcases Nat.lt_or_ge i n with h|h;have h1:=h0 i h;rw[M' (by simpa using h)];have hs:i<listed.size:=(by rw[inv.size];omega);rw[Uq hs];simp[hs] at h1;simp[h1,h];rw[O' (by simpa using h)];simp only[List.length_replicate];rcases Nat.lt_or_ge i ops.size with h2|h2;have h1:=inv.tail i h h2;have hs:i<listed.size:=(by rw[inv.size];omega);rw[Uq hs];simp[hs] at h1;rw[h1,List.getElem?_replicate,UD (by omega)];rw[Array.getElem?_eq_none (by rw[inv.size];exact h2),List.getElem?_replicate,UC (by omega)]
end
section
variable {P:Program}{co:Bool}{ops:Array Oper}{Q:Exit->Act->World->Prop}
theorem mX{md:Region.Mode}{Q':Exit->Act->World->Prop} : ∀(l:List Oper) (k:Nat) (listed:Array Bool) (a:Act) (w:World),(∀j,l[j]? = ops[k+j]?)->
  Region.seqB md ops l.length k listed=true->cz P co ops Q' l a w->lF P co md ops Q' l.length listed a w
 | [],_,_,_,_,_,hB,h=>⟨by simpa[Region.seqB] using hB,h⟩
 | o::l,k,listed,a,w,hl,hB,h=>by have h0:ops[k]? = some o:=(by simpa using (hl 0).symm);simp only[List.length_cons,Region.seqB,Ur,Ux] at hB;refine⟨λh1=>(by rw[hB.1] at h1;cases h1),λi hi=>?_⟩;rw[hB.1] at hi;have hik:i=k:=(by simpa using hi);subst hik;have hw:nW P co ops i (cz P co ops Q' l) a w:=(by unfold nW;simp only[h0];exact h);exact rM (λa' w' h'=>mX l (i+1) _ a' w' (λj=>by have:=hl (j+1);simpa[Nat.add_assoc,Nat.add_comm 1 j] using this) hB.2 h') hw
def iI(ops:Array Oper)(n:Nat):Bool:=match Nat.beq n ops.size with|true=>EA ops n|false=>ye ops n
theorem EK{n:Nat}(hB:iI ops n=true)(I:Array Bool->Act->World->Prop)
  (step:∀(listed:Array Bool) (a:Act) (W:World) (i:Nat) (o:Oper),HeadInv .any ops n listed->I listed a W->i<n->ops[i]? = some o->listed.getD i false=false->
   (∀e∈o.after,Region.binds .any e=true->listed.getD e.on false=true)->∀K:Act->World->Prop,(∀a' W',I (listed.setIfInBounds i true) a' W'->K a' W')->
   if Region.wanted o (yielded ops a.tmps)=true then OpJ P co o a W K else K (a.put o.dst undef) W)
  (fin:∀listed a W,I listed a W->(∀i,i<n->listed.getD i false=true)->cz P co ops Q (ops.toList.drop n) a W) :
  ∀(r:Nat) (listed:Array Bool) (a:Act) (W:World),cnt listed n=r->HeadInv .any ops n listed->I listed a W->lF P co .any ops Q (r+(ops.size-n)) listed a W:=by
 have hn:n<=ops.size∧EA ops n=true:=by unfold iI at hB;split at hB;rename_i h;have:=Nb h;exact⟨by omega,hB⟩;simp only[ye,Ur,Ux] at hB;exact⟨by omega,hB.1.2⟩
 obtain⟨hn,hb⟩:=hn;intro r
 induction r with
 | zero=>
  intro listed a W hcnt inv hI;have Vb:=KO hcnt;have hf:=fin listed a W hI Vb;unfold iI at hB;split at hB
  ·rename_i h;have he:=Nb h;subst he;rw[Nat.sub_self];have hd:ops.toList.drop ops.size=[]:=(by simp);rw[hd] at hf;refine⟨?_,hf⟩;cases hr:Region.ready .any ops listed with
   | nil=>rfl
   | cons x xs=>
    have hx:x∈Region.ready .any ops listed:=(by rw[hr];exact Ut);obtain⟨hu,o,ho,_⟩:=mem_ready.1 hx;have U8:x<ops.size:=(E'.1 ho).1;have:=Vb x U8;rw[getD_both hu] at this;cases this
  simp only[ye,Ur,Ux] at hB;obtain⟨⟨⟨⟨hn,hs⟩,hc⟩,hb⟩,hq⟩:=hB;have Zc:(ops.toList.drop n).length=ops.size-n:=(by simp);have:=mX (P:=P) (md:=.any) (Q':=Q) (ops.toList.drop n) n listed a W (λj=>by simp[List.getElem?_drop])
   (by rw[Zc,full_of inv hn Vb];exact hq) hf
  rwa [Zc,<-B' (ops.size-n)] at this
 | succ r ih=>
  intro listed a W hcnt inv hI;obtain⟨u,hu,hun⟩:=Oo hcnt;rw[show r+1+(ops.size-n)=(r+(ops.size-n))+1 by omega];refine⟨λhe=>Uw he (A9 hb hn inv.size u hu hun),λi hi=>?_⟩;obtain⟨hiu,o,ho,hdeps⟩:=mem_ready.1 hi;have Xm:i<n:=(by unfold iI at hB;split at hB;rename_i h;have he:=Nb h;have U8:i<ops.size:=(E'.1 ho).1;omega;simp only[ye,Ur,Ux] at hB;obtain⟨⟨⟨⟨hn,hs⟩,hc⟩,hb⟩,hq⟩:=hB;rcases Nat.lt_or_ge i n with h|h;exact h;exact Uw hi (tail_waits hs hc hn inv (n-u) u rfl hu (getD_in (by rw[inv.size];omega) hun) i h));have Xl:i<listed.size:=(by rw[inv.size];omega);have hK:=step listed a W i o inv hI Xm ho (getD_both hiu) hdeps
   (λa' W'=>lF P co .any ops Q (r+(ops.size-n)) (listed.setIfInBounds i true) a' W')
   (λa' W' h'=>ih _ a' W' (by have:=On Xm Xl (getD_both hiu);omega) (inv.set hi Xm) h')
  unfold nW;rw[ho];show if Region.wanted o (yielded ops a.tmps)=true then _ else _;split;rename_i hw;rw[UD hw] at hK;exact hK;rename_i hw;rw[UC hw] at hK;exact hK
theorem nA{n:Nat}{a:Act}{w:World}(hB:iI ops n=true)(I:Array Bool->Act->World->Prop)
  (h0:I (Array.replicate ops.size false) a w)
  (step:∀(listed:Array Bool) (a:Act) (W:World) (i:Nat) (o:Oper),HeadInv .any ops n listed->I listed a W->i<n->ops[i]? = some o->listed.getD i false=false->
   (∀e∈o.after,Region.binds .any e=true->listed.getD e.on false=true)->∀K:Act->World->Prop,(∀a' W',I (listed.setIfInBounds i true) a' W'->K a' W')->
   if Region.wanted o (yielded ops a.tmps)=true then OpJ P co o a W K else K (a.put o.dst undef) W)
  (fin:∀listed a W,I listed a W->(∀i,i<n->listed.getD i false=true)->cz P co ops Q (ops.toList.drop n) a W) :
  lF P co .any ops Q ops.size (Array.replicate ops.size false) a w:=by
 have hn:n<=ops.size:=by unfold iI at hB;split at hB;rename_i h;have:=Nb h;omega;simp only[ye,Ur,Ux] at hB;omega
 have hcnt:cnt (Array.replicate ops.size false) n=n:=by have:(List.range n).countP (λi=>!(Array.replicate ops.size false).getD i false)=(List.range n).length:=List.countP_eq_length.2 λi _=>(by rw[getD_replicate_false];rfl);unfold cnt;rw[this,List.length_range]
 have:=EK (P:=P) (Q:=Q) hB I step fin n (Array.replicate ops.size false) a w hcnt
  ⟨by simp,λj oj _ hl=>(by rw[getD_replicate_false] at hl;cases hl),λt _ ht=>getD_in (by simpa using ht) (getD_replicate_false _ _)⟩ h0
 rwa [show n+(ops.size-n)=ops.size by omega] at this
end
structure Slot where
 rg:Nat
 k:Nat
 g:List (Nat×Bool)
 v:SV
structure St where
 sl:List (Nat×Slot)
 H:bc
 nm:Nat
 rg:Nat
  /-- In a drawn region: Ye names YY are read, Ye names YY are written, and by which operation. -/
 rd:List (Nat×Nat):=[]
 ws:List (Nat×Nat):=[]
def cO:Value->SV
 | .int k n=>.il k n
 | .bool b=>.bl b
 | x=>.v x
theorem jG{ρ:Names}{x:Value} : den ρ (cO x) x:=by unfold cO;split<;>rfl
def H4:Bool->Bool->Bool
 | true,true=>true
 | false,false=>true
 | _,_=>false
theorem H3{a b:Bool}(h:H4 a b=true):a=b:=by cases a<;>cases b<;>first|rfl|cases h
def xo(p:Nat×Bool):List (Nat×Bool)->Bool
 | []=>false
 | q::r=>match Nat.beq p.1 q.1,H4 p.2 q.2 with|true,true=>true|_,_=>xo p r
theorem tQ{p:Nat×Bool} : ∀{l:List (Nat×Bool)},xo p l=true->p∈l
 | [],h=>by cases h
 | q::r,h=>by simp only[xo] at h;split at h;rename_i h1 h2;have e1:=Nb h1;have e2:=H3 h2;have:p=q:=Prod.ext e1 e2;rw[this];exact Ut;exact UE _ (tQ h)
def HP:List (Nat×Bool)->List (Nat×Bool)->Bool
 | [],_=>true
 | p::r,m=>match xo p m with|true=>HP r m|false=>false
theorem oa:∀{l m:List (Nat×Bool)},HP l m=true->∀p∈l,p∈m
 | [],m,_,p,hp=>by cases hp
 | q::r,m,h,p,hp=>by simp only[HP] at h;split at h;rename_i h1;rcases UI.1 hp with rfl|hp;exact tQ h1;exact oa h p hp;cases h
def ib(o:Oper)(j:Nat):Bool:=o.after.toList.any λe=>Region.binds .any e&&Nat.beq e.on j
theorem gY{o:Oper}{j:Nat}(h:ib o j=true):∃e∈o.after,Region.binds .any e=true∧e.on=j:=by obtain⟨e,he,hb⟩:=List.any_eq_true.1 h;simp only[Ur] at hb;exact⟨e,by simpa using he,hb.1,Nb hb.2⟩
def lW(k t:Nat):List Oper->Bool
 | []=>true
 | o::r=>match o.dst with
  | none=>lW k t r
  | some d=>match Nat.beq d t with
   | false=>lW k t r
   | true=>match ib o k with|true=>lW k t r|false=>false
theorem pP{k t:Nat} : ∀{l:List Oper},lW k t l=true->∀(i:Nat) (o:Oper),l[i]? = some o->o.dst=some t->ib o k=true
 | [],_,i,o,hi,_=>by simp at hi
 | p::r,h,i,o,hi,hd=>by
  cases i with
  | zero=>
   obtain rfl:p=o:=(by simpa using hi);simp only[lW,hd,UN] at h;split at h;assumption;cases h
  | succ i=>
   refine pP (l:=r) ?_ i o (by simpa using hi) hd;simp only[lW] at h;split at h;exact h;split at h;exact h;split at h;exact h;cases h
def mV(any:Bool)(heads:List Oper)(k:Nat)(rg:Nat)(sl:List (Nat×Slot))(o:Oper)(gk:List (Nat×Bool)):ZN:=λex x=>
 match x with
 | .const v=>some (cO v)
 | .global g=>some (.v (.pointer (some ⟨g,0,none⟩)))
 | .func f=>some (.v (.func (.func f) #[] #[]))
 | .tmp t=>match look sl t with
  | none=>none
  | some ⟨Yl,sk,sg,sv⟩=>match Nat.beq Yl rg with
   | true=>match HP sg (ex++gk) with
    | true=>match any with
     | true=>match ib o sk with|true=>some sv|false=>none
     | false=>some sv
    | false=>none
   | false=>match sg with
    | []=>match any with
     | true=>match lW k t heads with|true=>some sv|false=>none
     | false=>some sv
    | _::_=>none
theorem su{any:Bool}{heads:List Oper}{k rg:Nat}{sl:List (Nat×Slot)}{o:Oper}{gk:List (Nat×Bool)}{ex:List (Nat×Bool)}{x:Operand} : mV any heads k rg sl o gk ex x=match x with
 | .const v=>some (cO v)
 | .global g=>some (.v (.pointer (some ⟨g,0,none⟩)))
 | .func f=>some (.v (.func (.func f) #[] #[]))
 | .tmp t=>match look sl t with
  | none=>none
  | some s=>match Nat.beq s.rg rg with
   | true=>match HP s.g (ex++gk) with
    | true=>match any with
     | true=>match ib o s.k with|true=>some s.v|false=>none
     | false=>some s.v
    | false=>none
   | false=>match s.g with
    | []=>match any with
     | true=>match lW k t heads with|true=>some s.v|false=>none
     | false=>some s.v
    | _::_=>none:=by
 cases x with
 | tmp t=>
  simp only[mV];cases look sl t with
  | none=>rfl
  | some s=>cases s;rfl
 | _=>rfl
def guardOf(any:Bool)(ops:List Oper)(rg:Nat)(sl:List (Nat×Slot))(o:Oper):Option (List (Nat×Bool)):=
 match o.guard with
 | none=>some []
 | some (j,Vj)=>match ops[j]? with
  | none=>none
  | some oj=>match oj.dst with
   | none=>none
   | some t=>match look sl t with
    | none=>none
    | some s=>match Nat.beq s.rg rg,Nat.beq s.k j with
     | true,true=>match any with
      | true=>match ib o j with|true=>some ((t,Vj)::s.g)|false=>none
      | false=>some ((t,Vj)::s.g)
     | _,_=>none
def sV(sl:List (Nat×Slot)):List (Nat×Bool)->Prop->Prop
 | [],p=>p
 | (t,Vj)::r,p=>match look sl t with
  | none=>sV sl r p
  | some s=>match s.v.bool? with
   | none=>sV sl r p
   | some b=>b=Vj->sV sl r p
def Jv(sl:List (Nat×Slot))(g:List (Nat×Bool)):Option Prop->Option Prop
 | none=>none
 | some p=>match g with|[]=>some p|_::_=>some (sV sl g p)
def mG(rg:Nat)(sl:List (Nat×Slot))(d:Nat):Bool:=
 match look sl d with
 | none=>true
 | some s=>match Nat.beq s.rg rg with|true=>false|false=>true
mutual
def dX:SV->List Nat
 | .p n _=>[n]
 | .s n _ _ _ _=>[n]
 | .g m _ _ _ _=>[m]
 | .gp m _ _ _ _=>[m]
 | .kd m _ _ _ _=>[m]
 | .kq m _ _ _ _=>[m]
 | .m n=>[n]
 | .f _ x y=>g7 x++g7 y
 | .agg l=>g7 l
 | .tup l=>g7 l
 | .v _=>[]
 | .il _ _=>[]
 | .bl _=>[]
 | .e=>[]
 | .rs _ _ _=>[]
 | .rp _ _=>[]
def g7:List SV->List Nat
 | []=>[]
 | x::r=>dX x++g7 r
end
def wD(H:bc):List Nat->List Nat
 | []=>[]
 | n::r=>match look H n with|some (.lay cs _)=>g7 cs++wD H r|_=>wD H r
def reach:Nat->bc->List Nat->List Nat
 | 0,_,l=>l
 | k+1,H,l=>match l with
  | []=>[]
  | n::r=>(n::r)++reach k H (wD H (n::r))
def C6(op:ZN)(H:bc):Op->List Nat
 | .load _ x=>match op [] x with|some v=>dX v|none=>[]
 | .store _ x _=>match op [] x with|some v=>dX v|none=>[]
 | .lookup _ x _ _=>match op [] x with|some v=>dX v|none=>[]
 | .mapUpdate _ x _ _=>match op [] x with|some v=>dX v|none=>[]
 | .call c=>match c.callee with
  | .value f=>match op [] f,YZ op c.args.toList with|some sf,some l=>reach 4 H (dX sf++g7 l)|_,_=>[]
  | .builtin .append=>match YZ op c.args.toList with|some l=>g7 l|none=>[]
  | .builtin .clear=>match YZ op c.args.toList with|some l=>g7 l|none=>[]
  | _=>[]
 | _=>[]
def restrict(H:bc):List Nat->bc
 | []=>[]
 | n::r=>match look H n with|some sb=>(n,sb)::restrict H r|none=>restrict H r
theorem jN{H:bc} : ∀{l:List Nat} {n:Nat} {sb:SB},look (restrict H l) n=some sb->n∈l∧look H n=some sb
 | [],n,sb,h=>by simp[restrict,look] at h
 | m::r,n,sb,h=>by simp only[restrict] at h;split at h;rename_i VC hsb;by_cases e:m=n;subst e;rw[aj] at h;rw[Oi h] at hsb;exact⟨Ut,hsb⟩;rw[ah _ _ e] at h;have:=jN h;exact⟨UE _ this.1,this.2⟩;have:=jN h;exact⟨UE _ this.1,this.2⟩
def K5(ops:List Oper):Nat->Nat->Nat->Bool
 | 0,_,_=>false
 | k+1,i,j=>match ops[i]? with
  | none=>false
  | some o=>match ib o j with|true=>true|false=>o.after.toList.any λe=>Region.binds .any e&&K5 ops k e.on j
def qH(ops:List Oper)(i n:Nat):List (Nat×Nat)->Bool
 | []=>true
 | (m,j)::r=>match Nat.beq m n with
  | true=>match K5 ops 5 i j with|true=>qH ops i n r|false=>false
  | false=>qH ops i n r
def xD(ops:List Oper)(i:Nat)(ws:List (Nat×Nat)):List Nat->Bool
 | []=>true
 | n::r=>match qH ops i n ws with|true=>xD ops i ws r|false=>false
def rdN(any:Bool)(op:ZN)(H:bc)(o:Op):Option (List Nat):=
 match any with
 | false=>some []
 | true=>laid (C6 op H o)
def DL(any:Bool)(H:bc)(R:List Nat):bc:=match any with|true=>restrict H R|false=>H
def OT(any:Bool)(ops:List Oper)(k:Nat)(R:List Nat)(ws:List (Nat×Nat)):Bool:=match any with|true=>xD ops k ws R|false=>true
def E5(w:Option (Nat×SB))(H:bc):bc:=match w with|none=>H|some x=>x::H
def ly(fr:Bool)(nm:Nat):Nat:=match fr with|true=>nm+1|false=>nm
def Ml(any:Bool)(w:Option (Nat×SB))(k:Nat)(ws:List (Nat×Nat)):List (Nat×Nat):=match any,w with|true,some (n,_)=>(n,k)::ws|_,_=>ws
def Ko(k:Nat):List Nat->List (Nat×Nat)->List (Nat×Nat)
 | [],l=>l
 | n::r,l=>(n,k)::Ko k r l
def PO(any:Bool)(k:Nat)(R:List Nat)(rd:List (Nat×Nat)):List (Nat×Nat):=match any with|true=>Ko k R rd|false=>rd
def wrB(any:Bool)(ops:List Oper)(k:Nat)(g:List (Nat×Bool))(w:Option (Nat×SB))(fr:Bool)(nm:Nat)(rd ws:List (Nat×Nat)):Bool:=
 match w with
 | none=>match fr with|true=>false|false=>true
 | some (n,_)=>match g,Nat.blt n (ly fr nm) with
  | [],true=>match any with
   | false=>true
   | true=>match qH ops k n ws with|true=>qH ops k n rd|false=>false
  | _,_=>false
def zJ(nt rg:Nat)(sl:List (Nat×Slot))(o:Oper):Bool:=
 match o.dst with
 | none=>true
 | some d=>match wO o.op,Nat.blt d nt with|false,true=>mG rg sl d|_,_=>false
def E4(rg k:Nat)(g:List (Nat×Bool))(v:SV)(dst:Option Nat)(sl:List (Nat×Slot)):List (Nat×Slot):=match dst with|none=>sl|some d=>(d,⟨rg,k,g,v⟩)::sl
inductive Bx (α:Type) where
 | mk (x:α)
 | no
def yT(n:Nat):Bx Nat:=match n with|0=>.mk 1|m+1=>.mk (m+2)
theorem kT{n:Nat} : yT n=.mk (n+1):=by cases n<;>rfl
def BK(n:Nat):Bx Nat:=match n with|0=>.mk 0|m+1=>.mk (m+1)
def BL(n:Int):Bx Int:=match n with
 | .ofNat m=>match BK m with|.mk m'=>.mk (.ofNat m')|.no=>.no
 | .negSucc m=>match BK m with|.mk m'=>.mk (.negSucc m')|.no=>.no
def JE(x:Value):Bx SV:=match x with
 | .int k n=>.mk (.v (.int k n))
 | .bool b=>.mk (.v (.bool b))
 | y=>.mk (.v y)
mutual
def nM:SV->Bx SV
 | .v x=>JE x
 | .il k n=>match BL n with|.mk n'=>.mk (.il k n')|.no=>.no
 | .agg l=>match kW l with|.mk l'=>.mk (.agg l')|.no=>.no
 | .tup l=>match kW l with|.mk l'=>.mk (.tup l')|.no=>.no
 | .f fn x y=>match kW x,kW y with|.mk x',.mk y'=>.mk (.f fn x' y')|_,_=>.no
 | .bl b=>.mk (.bl b)
 | .p n off=>.mk (.p n off)
 | .s n sz off len cap=>.mk (.s n sz off len cap)
 | .e=>.mk .e
 | .rs sz n h=>.mk (.rs sz n h)
 | .rp x off=>.mk (.rp x off)
 | .g m e sz off n=>.mk (.g m e sz off n)
 | .gp m e sz i off=>.mk (.gp m e sz i off)
 | .kd m i sz off n=>.mk (.kd m i sz off n)
 | .kq m i sz j off=>.mk (.kq m i sz j off)
 | .m n=>.mk (.m n)
def kW:List SV->Bx (List SV)
 | []=>.mk []
 | x::r=>match nM x,kW r with|.mk x',.mk r'=>.mk (x'::r')|_,_=>.no
end
theorem FF{n:Nat} : BK n=.mk n:=by cases n<;>rfl
theorem FG{n:Int} : BL n=.mk n:=by cases n<;>simp only[BL,FF]
theorem FE{x:Value} : JE x=.mk (.v x):=by cases x<;>rfl
mutual
theorem ve:∀(x:SV),nM x=.mk x
 | .v x=>FE
 | .il k n=>by simp only[nM,FG]
 | .agg l=>by simp only[nM,gA l]
 | .tup l=>by simp only[nM,gA l]
 | .f fn x y=>by simp only[nM,gA x,gA y]
 | .bl b=>rfl
 | .p _ _=>rfl
 | .s _ _ _ _ _=>rfl
 | .e=>rfl
 | .rs _ _ _=>rfl
 | .rp _ _=>rfl
 | .g _ _ _ _ _=>rfl
 | .gp _ _ _ _ _=>rfl
 | .kd _ _ _ _ _=>rfl
 | .kq _ _ _ _ _=>rfl
 | .m _=>rfl
theorem gA:∀(x:List SV),kW x=.mk x
 | []=>rfl
 | x::r=>by simp only[kW,ve x,gA r]
end
def qp(rg k:Nat)(g:List (Nat×Bool))(v:SV)(dst:Option Nat)(sl:List (Nat×Slot)):Bx (List (Nat×Slot)):=match dst with
 | none=>.mk sl
 | some d=>match nM v with|.mk v'=>.mk ((d,⟨rg,k,g,v'⟩)::sl)|.no=>.no
def Iz(w:Option (Nat×SB))(H:bc):Bx bc:=match w with
 | none=>.mk H
 | some (n,.lay cs t)=>match kW cs with|.mk Yi=>.mk ((n,.lay Yi t)::H)|.no=>.no
 | some x=>.mk (x::H)
def O2(fr:Bool)(nm:Nat):Bx Nat:=match fr with|true=>yT nm|false=>.mk nm
theorem jg{rg k:Nat}{g:List (Nat×Bool)}{v:SV}{dst:Option Nat}{sl:List (Nat×Slot)} : qp rg k g v dst sl=.mk (E4 rg k g v dst sl):=by
 cases dst with
 | none=>rfl
 | some d=>simp only[qp,ve];rfl
theorem Iy{w:Option (Nat×SB)}{H:bc} : Iz w H=.mk (E5 w H):=by unfold Iz;split;rfl;simp only[gA];rfl;rfl
theorem Ix{fr:Bool}{nm:Nat} : O2 fr nm=.mk (ly fr nm):=by cases fr;rfl;exact kT
def iA{PP:Program}{C:Cx PP}(Γ:List (UW C))(nt:Nat)(any:Bool)(ops heads:List Oper)(k:Nat)(o:Oper):St->Option (St×Option Prop)
 | ⟨sl,H,nm,rg,rd,ws⟩=>match guardOf any ops rg sl o with
  | none=>none
  | some g0=>match laid g0 with
   | none=>none
   | some g=>match rdN any (mV any heads k rg sl o g) H o.op with
    | none=>none
    | some R=>match OT any ops k R ws,D Γ (fzB g) (mV any heads k rg sl o g) (DL any H R) nm o.op with
     | true,some ⟨ob,v,w,fr⟩=>match wrB any ops k g w fr nm rd ws,zJ nt rg sl o with
      | true,true=>match qp rg k g v o.dst sl,Iz w H,O2 fr nm with
       | .mk Xr,.mk H',.mk VE=>match any with
        | true=>match laid (PO true k R rd),laid (Ml true w k ws) with
         | some rd',some ws'=>some (⟨Xr,H',VE,rg,rd',ws'⟩,Jv sl g ob)
         | _,_=>none
        | false=>some (⟨Xr,H',VE,rg,rd,ws⟩,Jv sl g ob)
       | _,_,_=>none
      | _,_=>none
     | _,_=>none
def Ro(p:Option Prop)(q:Prop):Prop:=match p with|none=>q|some p=>p∧q
theorem EC{p:Option Prop}{q:Prop}(h:Ro p q):nE p∧q:=by
 cases p with
 | none=>exact⟨trivial,h⟩
 | some p=>exact h
def zD(F:Nat->Oper->St->Option (St×Option Prop)):Nat->List Oper->St->(St->Prop)->Prop
 | _,[],st,K=>K st
 | k,o::r,st,K=>match F k o st with
  | none=>False
  | some (Vd,ob)=>match yT k with|.mk k'=>Ro ob (zD F k' r Vd K)|.no=>False
def pg(F:Nat->Oper->St->Option (St×Option Prop))(l:List Oper)(st:St):Nat->St
 | 0=>st
 | i+1=>match l[i]? with
  | none=>pg F l st i
  | some o=>match F i o (pg F l st i) with
   | none=>pg F l st i
   | some (s,_)=>s
theorem tn(F:Nat->Oper->St->Option (St×Option Prop)){l:List Oper}{st0:St}{K:St->Prop} : ∀(r:List Oper) (k:Nat),(∀j,r[j]? = l[k+j]?)->k+r.length=l.length->zD F k r (pg F l st0 k) K->
  (∀i o,k<=i->l[i]? = some o->∃ob,F i o (pg F l st0 i)=some (pg F l st0 (i+1),ob)∧nE ob)∧K (pg F l st0 l.length)
 | [],k,hr,hk,h=>by simp only[List.length_nil,Nat.add_zero] at hk;subst hk;refine⟨λi o hi ho=>?_,h⟩;have:i<l.length:=(J'.1 ho).1;omega
 | o::r,k,hr,hk,h=>by have h0:l[k]? = some o:=(by simpa using (hr 0).symm);simp only[zD,kT] at h;split at h;cases h;rename_i Vd ob hF;obtain⟨h1,h2⟩:=EC h;have hs:pg F l st0 (k+1)=Vd:=(by simp only[pg,h0,hF]);rw[<-hs] at h2;obtain⟨k1,k2⟩:=tn F r (k+1) (λj=>by have:=hr (j+1);simp only[List.getElem?_cons_succ] at this;rw[this];congr 1;omega) (by simp at hk;omega) h2;refine⟨λi o' hi WC=>?_,k2⟩;rcases UK hi with rfl|U8;rw[h0] at WC;obtain rfl:=Oi WC;exact⟨ob,by rw[hF,hs],h1⟩;exact k1 i o' U8 WC
end Go.Proofs.YtgigkennhdolpaaGreatDoor
