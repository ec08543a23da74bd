/- A region that draws its order. -/
import Derived.StillTail
import Derived.Test.YtmdpdknpapjchaaGreatDoorM15
set_option linter.all false
namespace Go.Proofs.YtmdpdknpapjchaaGreatDoor
open Go.RowKit
variable {listed:Array Bool}{k n rg:Nat}{P:Program}
section
variable {ops:Array Oper}{Q:Exit->Act->World->Prop}
def Ge(ops:Array Oper)(n:Nat):Bool:=
 (List.range n).all λi=>match ops[i]? with|some o=>o.after.all λe=>!Region.binds .any e||decide (e.on<i)|none=>true
def uA(n g:Nat):Array Bool:=(List.replicate n true++List.replicate g false).toArray
def zI(ops:Array Oper)(n:Nat):Bool:=
 decide (n<ops.size)&&Region.sinkB .any ops n&&Region.chainB .any ops n&&Ge ops n&&Region.seqB .any ops (ops.size-n) n (uA n (ops.size-n))
def cnt(listed:Array Bool)(n:Nat):Nat:=(List.range n).countP λi=>!listed.getD i false
theorem u7{f g:Nat->Bool}{i:Nat}(hf:f i=true)(hg:g i=false)(he:∀j,j≠i->g j=f j):∀n,(List.range n).countP g+(if i<n then 1 else 0)=(List.range n).countP f
 | 0=>by simp
 | n+1=>by rw[List.range_succ,List.countP_append,List.countP_append];have ih:=u7 hf hg he n;by_cases h:n=i;subst h;simp[hf,hg] at ih ⊢;omega;have e:=he n h;simp only[List.countP_cons,List.countP_nil,e];generalize (if f n=true then 1 else 0)=z;by_cases h1:i<n;rw[Xl h1] at ih;rw[Xl (by omega)];omega;rw[Xk h1] at ih;rw[Xk (by omega)];omega
theorem Qm{i:Nat}(hi:i<n)(hs:i<listed.size)(hu:listed.getD i false=false):cnt (listed.setIfInBounds i true) n+1=cnt listed n:=by have:=u7 (f:=λj=>!listed.getD j false) (g:=λj=>!(listed.setIfInBounds i true).getD j false) (i:=i) (by simpa using hu) (by simp[hs]) (λj hj=>by show (!(listed.setIfInBounds i true).getD j false)=_;rw[getD_set_ne false (Ne.symm hj)]) n;rw[Xl hi] at this;exact this
theorem Mr(h:cnt listed n=0)(i:Nat)(hi:i<n):listed.getD i false=true:=by have:=List.countP_eq_zero.1 h i (List.mem_range.2 hi);simpa using this
theorem Qn{r:Nat}(h:cnt listed n=r+1):∃i,i<n∧listed.getD i false=false:=by
 have:0<(List.range n).countP λi=>!listed.getD i false:=by have h':(List.range n).countP (λi=>!listed.getD i false)=r+1:=h;omega
 obtain⟨i,hi,hu⟩:=List.countP_pos_iff.1 this;exact⟨i,List.mem_range.1 hi,by simpa using hu⟩
theorem Ct(hb:Ge ops n=true)(hn:n<=ops.size)(Y8:listed.size=ops.size):∀(i:Nat),i<n->listed.getD i false=false->Region.ready .any ops listed≠[]:=by
 intro i
 induction i using Nat.strongRecOn with
 | _ i ih=>
  intro hi hu he;have ho:ops[i]? = some (ops[i]'(by omega)):=F' (by omega);by_cases X8:∃e,e∈(ops[i]'(by omega)).after∧Region.binds .any e=true∧listed.getD e.on false=false
  rotate_left
  ·have:i∈Region.ready .any ops listed:=mem_ready.2 ⟨getD_in (by omega) hu,_,ho,λe hm hbd=>by
    cases hl:listed.getD e.on false with
    | true=>rfl
    | false=>exact P' ⟨e,hm,hbd,hl⟩ X8⟩
   rw[he] at this;cases this
  obtain⟨e,hm,hbd,hl⟩:=X8;have h1:=List.all_eq_true.1 hb i (List.mem_range.2 hi);rw[ho] at h1;have h2:=Array.all_eq_true'.1 h1 e hm;simp only[hbd,Bool.not_true,Bool.false_or,U'] at h2;exact ih e.on h2 (by omega) hl he
theorem full_of(inv:HeadInv .any ops n listed)(hn:n<ops.size)(h0:∀i,i<n->listed.getD i false=true):listed=uA n (ops.size-n):=by
 apply Array.ext_getElem?;intro i;have ea:∀l:List Bool,l.toArray[i]? = l[i]?:=λl=>by simp
 unfold uA;rw[ea (List.replicate n true++List.replicate (ops.size-n) false)];rcases Nat.lt_or_ge i n with h|h;have h1:=h0 i h;rw[F5 (by simpa using h)];have hs:i<listed.size:=(by rw[inv.size];omega);rw[F' hs];simp[hs] at h1;simp[h1,h];rw[F6 (by simpa using h)];simp only[List.length_replicate];rcases Nat.lt_or_ge i ops.size with h2|h2;have h1:=inv.tail i h h2;have hs:i<listed.size:=(by rw[inv.size];omega);rw[F' hs];simp[hs] at h1;rw[h1,List.getElem?_replicate,Xl (by omega)];rw[Array.getElem?_eq_none (by rw[inv.size];exact h2),List.getElem?_replicate,Xk (by omega)]
end
section
variable {co:Bool}{ops:Array Oper}{Q:Exit->Act->World->Prop}
theorem nI{md:Region.Mode}{Q':Exit->Act->World->Prop} : ∀(l:List Oper) (k:Nat) (listed:Array Bool) (a:Act) (w:World),(∀j,l[j]? = ops[k+j]?)->
  Region.seqB md ops l.length k listed=true->cL P co ops Q' l a w->mc P co md ops Q' l.length listed a w
 | [],_,_,_,_,_,hB,h=>⟨by simpa[Region.seqB] using hB,h⟩
 | o::l,k,listed,a,w,hl,hB,h=>by have h0:ops[k]? = some o:=(by simpa using (hl 0).symm);simp only[List.length_cons,Region.seqB,I',U'] at hB;refine⟨λh1=>(by rw[hB.1] at h1;cases h1),λi hi=>?_⟩;rw[hB.1] at hi;have hik:i=k:=(by simpa using hi);subst hik;have hw:oQ P co ops i (cL P co ops Q' l) a w:=(by unfold oQ;simp only[h0];exact h);exact sW (λa' w' h'=>nI l (i+1) _ a' w' (λj=>by have:=hl (j+1);simpa[Nat.add_assoc,Nat.add_comm 1 j] using this) hB.2 h') hw
def kG(ops:Array Oper)(n:Nat):Bool:=match Nat.beq n ops.size with|true=>Ge ops n|false=>zI ops n
theorem Gq(hB:kG ops n=true)(I:Array Bool->Act->World->Prop)(step:∀(listed:Array Bool) (a:Act) (W:World) (i:Nat) (o:Oper),HeadInv .any ops n listed->I listed a W->i<n->ops[i]? = some o->listed.getD i false=false->
   (∀e∈o.after,Region.binds .any e=true->listed.getD e.on false=true)->∀K:Act->World->Prop,(∀a' W',I (listed.setIfInBounds i true) a' W'->K a' W')->
   if Region.wanted o (yielded ops a.tmps)=true then OpJ P co o a W K else K (a.put o.dst undef) W)(fin:∀listed a W,I listed a W->(∀i,i<n->listed.getD i false=true)->cL P co ops Q (ops.toList.drop n) a W) :
  ∀(r:Nat) (listed:Array Bool) (a:Act) (W:World),cnt listed n=r->HeadInv .any ops n listed->I listed a W->mc P co .any ops Q (r+(ops.size-n)) listed a W:=by
 have hn:n<=ops.size∧Ge ops n=true:=by unfold kG at hB;split at hB;rename_i h;have:=Nb h;exact⟨by omega,hB⟩;simp only[zI,I',U'] at hB;exact⟨by omega,hB.1.2⟩
 obtain⟨hn,hb⟩:=hn;intro r
 induction r with
 | zero=>
  intro listed a W hcnt inv hI;have X8:=Mr hcnt;have hf:=fin listed a W hI X8;unfold kG at hB;split at hB
  ·rename_i h;have he:=Nb h;subst he;rw[Nat.sub_self];have hd:ops.toList.drop ops.size=[]:=(by simp);rw[hd] at hf;refine⟨?_,hf⟩;cases hr:Region.ready .any ops listed with
   | nil=>rfl
   | cons x xs=>
    have hx:x∈Region.ready .any ops listed:=(by rw[hr];exact J');obtain⟨hu,o,ho,_⟩:=mem_ready.1 hx;have X0:x<ops.size:=(E'.1 ho).1;have:=X8 x X0;rw[getD_both hu] at this;cases this
  simp only[zI,I',U'] at hB;obtain⟨⟨⟨⟨hn,hs⟩,hc⟩,hb⟩,hq⟩:=hB;have hdl:(ops.toList.drop n).length=ops.size-n:=(by simp);have:=nI (P:=P) (md:=.any) (Q':=Q) (ops.toList.drop n) n listed a W (λj=>by simp[List.getElem?_drop])
   (by rw[hdl,full_of inv hn X8];exact hq) hf
  rwa [hdl,<-B' (ops.size-n)] at this
 | succ r ih=>
  intro listed a W hcnt inv hI;obtain⟨u,hu,hun⟩:=Qn hcnt;rw[show r+1+(ops.size-n)=(r+(ops.size-n))+1 by omega];refine⟨λhe=>P' he (Ct hb hn inv.size u hu hun),λi hi=>?_⟩;obtain⟨hiu,o,ho,hdeps⟩:=mem_ready.1 hi;have hin:i<n:=(by unfold kG at hB;split at hB;rename_i h;have he:=Nb h;have X0:i<ops.size:=(E'.1 ho).1;omega;simp only[zI,I',U'] at hB;obtain⟨⟨⟨⟨hn,hs⟩,hc⟩,hb⟩,hq⟩:=hB;rcases Nat.lt_or_ge i n with h|h;exact h;exact P' hi (tail_waits hs hc hn inv (n-u) u rfl hu (getD_in (by rw[inv.size];omega) hun) i h));have Y8:i<listed.size:=(by rw[inv.size];omega);have hK:=step listed a W i o inv hI hin ho (getD_both hiu) hdeps
   (λa' W'=>mc P co .any ops Q (r+(ops.size-n)) (listed.setIfInBounds i true) a' W')
   (λa' W' h'=>ih _ a' W' (by have:=Qm hin Y8 (getD_both hiu);omega) (inv.set hi hin) h')
  unfold oQ;rw[ho];show if Region.wanted o (yielded ops a.tmps)=true then _ else _;split;rename_i hw;rw[Xl hw] at hK;exact hK;rename_i hw;rw[Xk hw] at hK;exact hK
theorem oq{a:Act}{w:World}(hB:kG ops n=true)(I:Array Bool->Act->World->Prop)(h0:I (Array.replicate ops.size false) a w)(step:∀(listed:Array Bool) (a:Act) (W:World) (i:Nat) (o:Oper),HeadInv .any ops n listed->I listed a W->i<n->ops[i]? = some o->listed.getD i false=false->
   (∀e∈o.after,Region.binds .any e=true->listed.getD e.on false=true)->∀K:Act->World->Prop,(∀a' W',I (listed.setIfInBounds i true) a' W'->K a' W')->
   if Region.wanted o (yielded ops a.tmps)=true then OpJ P co o a W K else K (a.put o.dst undef) W)(fin:∀listed a W,I listed a W->(∀i,i<n->listed.getD i false=true)->cL P co ops Q (ops.toList.drop n) a W) :
  mc P co .any ops Q ops.size (Array.replicate ops.size false) a w:=by
 have hn:n<=ops.size:=by unfold kG at hB;split at hB;rename_i h;have:=Nb h;omega;simp only[zI,I',U'] at hB;omega
 have hcnt:cnt (Array.replicate ops.size false) n=n:=by have:(List.range n).countP (λi=>!(Array.replicate ops.size false).getD i false)=(List.range n).length:=List.countP_eq_length.2 λi _=>(by rw[getD_replicate_false];rfl);unfold cnt;rw[this,List.length_range]
 have:=Gq (P:=P) (Q:=Q) hB I step fin n (Array.replicate ops.size false) a w hcnt
  ⟨by simp,λj oj _ hl=>(by rw[getD_replicate_false] at hl;cases hl),λt _ ht=>getD_in (by simpa using ht) (getD_replicate_false _ _)⟩ h0
 rwa [show n+(ops.size-n)=ops.size by omega] at this
end
structure Slot where
 rg:Nat
 k:Nat
 g:List (Nat×Bool)
 v:SV
structure St where
 sl:List (Nat×Slot)
 H:aU
 nm:Nat
 rg:Nat
  /-- In a drawn region: the names that are read, the names that are written, and by which operation. -/
 rd:List (Nat×Nat):=[]
 ws:List (Nat×Nat):=[]
def cH:Value->SV
 | .int k n=>.il k n
 | .bool b=>.bl b
 | x=>.v x
theorem jT{ρ:Names}{x:Value} : den ρ (cH x) x:=by unfold cH;split<;>rfl
def Jo:Bool->Bool->Bool
 | true,true=>true
 | false,false=>true
 | _,_=>false
theorem Jn{a b:Bool}(h:Jo a b=true):a=b:=by cases a<;>cases b<;>first|rfl|cases h
def yR(p:Nat×Bool):List (Nat×Bool)->Bool
 | []=>false
 | q::r=>match Nat.beq p.1 q.1,Jo p.2 q.2 with|true,true=>true|_,_=>yR p r
theorem vi{p:Nat×Bool} : ∀{l:List (Nat×Bool)},yR p l=true->p∈l
 | [],h=>by cases h
 | q::r,h=>by simp only[yR] at h;split at h;rename_i h1 h2;have e1:=Nb h1;have e2:=Jn h2;have:p=q:=Prod.ext e1 e2;rw[this];exact J';exact Xm _ (vi h)
def Jf:List (Nat×Bool)->List (Nat×Bool)->Bool
 | [],_=>true
 | p::r,m=>match yR p m with|true=>Jf r m|false=>false
theorem oX:∀{l m:List (Nat×Bool)},Jf l m=true->∀p∈l,p∈m
 | [],m,_,p,hp=>by cases hp
 | q::r,m,h,p,hp=>by simp only[Jf] at h;split at h;rename_i h1;rcases Xq.1 hp with rfl|hp;exact vi h1;exact oX h p hp;cases h
def ic(o:Oper)(j:Nat):Bool:=o.after.toList.any λe=>Region.binds .any e&&Nat.beq e.on j
theorem gZ{o:Oper}{j:Nat}(h:ic o j=true):∃e∈o.after,Region.binds .any e=true∧e.on=j:=by obtain⟨e,he,hb⟩:=List.any_eq_true.1 h;simp only[I'] at hb;exact⟨e,by simpa using he,hb.1,Nb hb.2⟩
def mF(k t:Nat):List Oper->Bool
 | []=>true
 | o::r=>match o.dst with
  | none=>mF k t r
  | some d=>match Nat.beq d t with
   | false=>mF k t r
   | true=>match ic o k with|true=>mF k t r|false=>false
theorem qx{k t:Nat} : ∀{l:List Oper},mF k t l=true->∀(i:Nat) (o:Oper),l[i]? = some o->o.dst=some t->ic o k=true
 | [],_,i,o,hi,_=>by simp at hi
 | p::r,h,i,o,hi,hd=>by
  cases i with
  | zero=>
   obtain rfl:p=o:=(by simpa using hi);simp only[mF,hd,Xv] at h;split at h;assumption;cases h
  | succ i=>
   refine qx (l:=r) ?_ i o (by simpa using hi) hd;simp only[mF] at h;split at h;exact h;split at h;exact h;split at h;exact h;cases h
def nE(any:Bool)(heads:List Oper)(k:Nat)(rg:Nat)(sl:List (Nat×Slot))(o:Oper)(gk:List (Nat×Bool)):OpF:=λex x=>
 match x with
 | .const v=>some (cH v)
 | .global g=>some (.v (.pointer (some ⟨g,0,none⟩)))
 | .func f=>some (.v (.func (.func f) #[] #[]))
 | .tmp t=>match look sl t with
  | none=>none
  | some ⟨srg,sk,sg,sv⟩=>match Nat.beq srg rg with
   | true=>match Jf sg (ex++gk) with
    | true=>match any with
     | true=>match ic o sk with|true=>some sv|false=>none
     | false=>some sv
    | false=>none
   | false=>match sg with
    | []=>match any with
     | true=>match mF k t heads with|true=>some sv|false=>none
     | false=>some sv
    | _::_=>none
theorem tI{any:Bool}{heads:List Oper}{sl:List (Nat×Slot)}{o:Oper}{gk:List (Nat×Bool)}{ex:List (Nat×Bool)}{x:Operand} : nE any heads k rg sl o gk ex x=match x with
 | .const v=>some (cH v)
 | .global g=>some (.v (.pointer (some ⟨g,0,none⟩)))
 | .func f=>some (.v (.func (.func f) #[] #[]))
 | .tmp t=>match look sl t with
  | none=>none
  | some s=>match Nat.beq s.rg rg with
   | true=>match Jf s.g (ex++gk) with
    | true=>match any with
     | true=>match ic o s.k with|true=>some s.v|false=>none
     | false=>some s.v
    | false=>none
   | false=>match s.g with
    | []=>match any with
     | true=>match mF k t heads with|true=>some s.v|false=>none
     | false=>some s.v
    | _::_=>none:=by
 cases x with
 | tmp t=>
  simp only[nE];cases look sl t with
  | none=>rfl
  | some s=>cases s;rfl
 | _=>rfl
def guardOf(any:Bool)(ops:List Oper)(rg:Nat)(sl:List (Nat×Slot))(o:Oper):Option (List (Nat×Bool)):=
 match o.guard with
 | none=>some []
 | some (j,Ye)=>match ops[j]? with
  | none=>none
  | some oj=>match oj.dst with
   | none=>none
   | some t=>match look sl t with
    | none=>none
    | some s=>match Nat.beq s.rg rg,Nat.beq s.k j with
     | true,true=>match any with
      | true=>match ic o j with|true=>some ((t,Ye)::s.g)|false=>none
      | false=>some ((t,Ye)::s.g)
     | _,_=>none
def uu(sl:List (Nat×Slot)):List (Nat×Bool)->Prop->Prop
 | [],p=>p
 | (t,Ye)::r,p=>match look sl t with
  | none=>uu sl r p
  | some s=>match s.v.bool? with
   | none=>uu sl r p
   | some b=>b=Ye->uu sl r p
def K7(sl:List (Nat×Slot))(g:List (Nat×Bool)):Option Prop->Option Prop
 | none=>none
 | some p=>match g with|[]=>some p|_::_=>some (uu sl g p)
def ni(rg:Nat)(sl:List (Nat×Slot))(d:Nat):Bool:=
 match look sl d with
 | none=>true
 | some s=>match Nat.beq s.rg rg with|true=>false|false=>true
mutual
def dU:SV->List Nat
 | .p n _=>[n]
 | .s n _ _ _ _=>[n]
 | .g m _ _ _ _=>[m]
 | .gp m _ _ _ _=>[m]
 | .kd m _ _ _ _=>[m]
 | .kq m _ _ _ _=>[m]
 | .m n=>[n]
 | .f _ x y=>gH x++gH y
 | .agg l=>gH l
 | .tup l=>gH l
 | .v _=>[]
 | .il _ _=>[]
 | .bl _=>[]
 | .e=>[]
 | .rs _ _ _=>[]
 | .rp _ _=>[]
def gH:List SV->List Nat
 | []=>[]
 | x::r=>dU x++gH r
end
def yc(H:aU):List Nat->List Nat
 | []=>[]
 | n::r=>match look H n with|some (.lay cs _)=>gH cs++yc H r|_=>yc H r
def reach:Nat->aU->List Nat->List Nat
 | 0,_,l=>l
 | k+1,H,l=>match l with
  | []=>[]
  | n::r=>(n::r)++reach k H (yc H (n::r))
def Eu(op:OpF)(H:aU):Op->List Nat
 | .load _ x=>match op [] x with|some v=>dU v|none=>[]
 | .store _ x _=>match op [] x with|some v=>dU v|none=>[]
 | .lookup _ x _ _=>match op [] x with|some v=>dU v|none=>[]
 | .mapUpdate _ x _ _=>match op [] x with|some v=>dU v|none=>[]
 | .call c=>match c.callee with
  | .value f=>match op [] f,opL op c.args.toList with|some sf,some l=>reach 4 H (dU sf++gH l)|_,_=>[]
  | .builtin .append=>match opL op c.args.toList with|some l=>gH l|none=>[]
  | .builtin .clear=>match opL op c.args.toList with|some l=>gH l|none=>[]
  | .builtin .copy=>match opL op c.args.toList with|some l=>gH l|none=>[]
  | _=>[]
 | _=>[]
def restrict(H:aU):List Nat->aU
 | []=>[]
 | n::r=>match look H n with|some sb=>(n,sb)::restrict H r|none=>restrict H r
theorem j7{H:aU} : ∀{l:List Nat} {n:Nat} {sb:SB},look (restrict H l) n=some sb->n∈l∧look H n=some sb
 | [],n,sb,h=>by simp[restrict,look] at h
 | m::r,n,sb,h=>by simp only[restrict] at h;split at h;rename_i Yu hsb;by_cases e:m=n;subst e;rw[ai] at h;rw[Oi h] at hsb;exact⟨J',hsb⟩;rw[ah _ _ e] at h;have:=j7 h;exact⟨Xm _ this.1,this.2⟩;have:=j7 h;exact⟨Xm _ this.1,this.2⟩
def MG(ops:List Oper):Nat->Nat->Nat->Bool
 | 0,_,_=>false
 | k+1,i,j=>match ops[i]? with
  | none=>false
  | some o=>match ic o j with|true=>true|false=>o.after.toList.any λe=>Region.binds .any e&&MG ops k e.on j
def rK(ops:List Oper)(i n:Nat):List (Nat×Nat)->Bool
 | []=>true
 | (m,j)::r=>match Nat.beq m n with
  | true=>match MG ops 5 i j with|true=>rK ops i n r|false=>false
  | false=>rK ops i n r
def y6(ops:List Oper)(i:Nat)(ws:List (Nat×Nat)):List Nat->Bool
 | []=>true
 | n::r=>match rK ops i n ws with|true=>y6 ops i ws r|false=>false
def rdN(any:Bool)(op:OpF)(H:aU)(o:Op):Option (List Nat):=
 match any with
 | false=>some []
 | true=>laid (Eu op H o)
def E8(any:Bool)(H:aU)(R:List Nat):aU:=match any with|true=>restrict H R|false=>H
def Q3(any:Bool)(ops:List Oper)(k:Nat)(R:List Nat)(ws:List (Nat×Nat)):Bool:=match any with|true=>y6 ops k ws R|false=>true
def GX(w:Option (Nat×SB))(H:aU):aU:=match w with|none=>H|some x=>x::H
def lY(fr:Bool)(nm:Nat):Nat:=match fr with|true=>nm+1|false=>nm
def Oh(any:Bool)(w:Option (Nat×SB))(k:Nat)(ws:List (Nat×Nat)):List (Nat×Nat):=match any,w with|true,some (n,_)=>(n,k)::ws|_,_=>ws
def Mb(k:Nat):List Nat->List (Nat×Nat)->List (Nat×Nat)
 | [],l=>l
 | n::r,l=>(n,k)::Mb k r l
def Sf(any:Bool)(k:Nat)(R:List Nat)(rd:List (Nat×Nat)):List (Nat×Nat):=match any with|true=>Mb k R rd|false=>rd
def wrB(any:Bool)(ops:List Oper)(k:Nat)(g:List (Nat×Bool))(w:Option (Nat×SB))(fr:Bool)(nm:Nat)(rd ws:List (Nat×Nat)):Bool:=
 match w with
 | none=>match fr with|true=>false|false=>true
 | some (n,_)=>match g,Nat.blt n (lY fr nm) with
  | [],true=>match any with
   | false=>true
   | true=>match rK ops k n ws with|true=>rK ops k n rd|false=>false
  | _,_=>false
def Bf(nt rg:Nat)(sl:List (Nat×Slot))(o:Oper):Bool:=
 match o.dst with
 | none=>true
 | some d=>match ym o.op,Nat.blt d nt with|false,true=>ni rg sl d|_,_=>false
def GV(rg k:Nat)(g:List (Nat×Bool))(v:SV)(dst:Option Nat)(sl:List (Nat×Slot)):List (Nat×Slot):=match dst with|none=>sl|some d=>(d,⟨rg,k,g,v⟩)::sl
inductive Bx (α:Type) where
 | mk (x:α)
 | no
def Av(n:Nat):Bx Nat:=match n with|0=>.mk 1|m+1=>.mk (m+2)
theorem lF : Av n=.mk (n+1):=by cases n<;>rfl
def Db(n:Nat):Bx Nat:=match n with|0=>.mk 0|m+1=>.mk (m+1)
def Dc(n:Int):Bx Int:=match n with
 | .ofNat m=>match Db m with|.mk m'=>.mk (.ofNat m')|.no=>.no
 | .negSucc m=>match Db m with|.mk m'=>.mk (.negSucc m')|.no=>.no
def Lh(x:Value):Bx SV:=match x with
 | .int k n=>.mk (.v (.int k n))
 | .bool b=>.mk (.v (.bool b))
 | y=>.mk (.v y)
mutual
def oJ:SV->Bx SV
 | .v x=>Lh x
 | .il k n=>match Dc n with|.mk n'=>.mk (.il k n')|.no=>.no
 | .agg l=>match lK l with|.mk l'=>.mk (.agg l')|.no=>.no
 | .tup l=>match lK l with|.mk l'=>.mk (.tup l')|.no=>.no
 | .f fn x y=>match lK x,lK y with|.mk x',.mk y'=>.mk (.f fn x' y')|_,_=>.no
 | .bl b=>.mk (.bl b)
 | .p n off=>.mk (.p n off)
 | .s n sz off len cap=>.mk (.s n sz off len cap)
 | .e=>.mk .e
 | .rs sz n h=>.mk (.rs sz n h)
 | .rp x off=>.mk (.rp x off)
 | .g m e sz off n=>.mk (.g m e sz off n)
 | .gp m e sz i off=>.mk (.gp m e sz i off)
 | .kd m i sz off n=>.mk (.kd m i sz off n)
 | .kq m i sz j off=>.mk (.kq m i sz j off)
 | .m n=>.mk (.m n)
def lK:List SV->Bx (List SV)
 | []=>.mk []
 | x::r=>match oJ x,lK r with|.mk x',.mk r'=>.mk (x'::r')|_,_=>.no
end
theorem Hq : Db n=.mk n:=by cases n<;>rfl
theorem Hr{n:Int} : Dc n=.mk n:=by cases n<;>simp only[Dc,Hq]
theorem Hp{x:Value} : Lh x=.mk (.v x):=by cases x<;>rfl
mutual
theorem wU:∀(x:SV),oJ x=.mk x
 | .v x=>Hp
 | .il k n=>by simp only[oJ,Hr]
 | .agg l=>by simp only[oJ,gh l]
 | .tup l=>by simp only[oJ,gh l]
 | .f fn x y=>by simp only[oJ,gh x,gh y]
 | .bl b=>rfl
 | .p _ _=>rfl
 | .s _ _ _ _ _=>rfl
 | .e=>rfl
 | .rs _ _ _=>rfl
 | .rp _ _=>rfl
 | .g _ _ _ _ _=>rfl
 | .gp _ _ _ _ _=>rfl
 | .kd _ _ _ _ _=>rfl
 | .kq _ _ _ _ _=>rfl
 | .m _=>rfl
theorem gh:∀(x:List SV),lK x=.mk x
 | []=>rfl
 | x::r=>by simp only[lK,wU x,gh r]
end
def ri(rg k:Nat)(g:List (Nat×Bool))(v:SV)(dst:Option Nat)(sl:List (Nat×Slot)):Bx (List (Nat×Slot)):=match dst with
 | none=>.mk sl
 | some d=>match oJ v with|.mk v'=>.mk ((d,⟨rg,k,g,v'⟩)::sl)|.no=>.no
def JO(w:Option (Nat×SB))(H:aU):Bx aU:=match w with
 | none=>.mk H
 | some (n,.lay cs t)=>match lK cs with|.mk cs'=>.mk ((n,.lay cs' t)::H)|.no=>.no
 | some x=>.mk (x::H)
def Q6(fr:Bool)(nm:Nat):Bx Nat:=match fr with|true=>Av nm|false=>.mk nm
theorem jw{g:List (Nat×Bool)}{v:SV}{dst:Option Nat}{sl:List (Nat×Slot)} : ri rg k g v dst sl=.mk (GV rg k g v dst sl):=by
 cases dst with
 | none=>rfl
 | some d=>simp only[ri,wU];rfl
theorem JN{w:Option (Nat×SB)}{H:aU} : JO w H=.mk (GX w H):=by unfold JO;split;rfl;simp only[gh];rfl;rfl
theorem JM{fr:Bool}{nm:Nat} : Q6 fr nm=.mk (lY fr nm):=by cases fr;rfl;exact lF
def iF{PP:Program}{C:Cx PP}(Γ:List (XR C))(nt:Nat)(any:Bool)(ops heads:List Oper)(k:Nat)(o:Oper):St->Option (St×Option Prop)
 | ⟨sl,H,nm,rg,rd,ws⟩=>match guardOf any ops rg sl o with
  | none=>none
  | some g0=>match laid g0 with
   | none=>none
   | some g=>match rdN any (nE any heads k rg sl o g) H o.op with
    | none=>none
    | some R=>match Q3 any ops k R ws,D Γ (fzB g) (nE any heads k rg sl o g) (E8 any H R) nm o.op with
     | true,some ⟨ob,v,w,fr⟩=>match wrB any ops k g w fr nm rd ws,Bf nt rg sl o with
      | true,true=>match ri rg k g v o.dst sl,JO w H,Q6 fr nm with
       | .mk Z2,.mk H',.mk Yl=>match any with
        | true=>match laid (Sf true k R rd),laid (Oh true w k ws) with
         | some rd',some ws'=>some (⟨Z2,H',Yl,rg,rd',ws'⟩,K7 sl g ob)
         | _,_=>none
        | false=>some (⟨Z2,H',Yl,rg,rd,ws⟩,K7 sl g ob)
       | _,_,_=>none
      | _,_=>none
     | _,_=>none
def T4(p:Option Prop)(q:Prop):Prop:=match p with|none=>q|some p=>p∧q
theorem Gh{p:Option Prop}{q:Prop}(h:T4 p q):ox p∧q:=by
 cases p with
 | none=>exact⟨trivial,h⟩
 | some p=>exact h
def AY(F:Nat->Oper->St->Option (St×Option Prop)):Nat->List Oper->St->(St->Prop)->Prop
 | _,[],st,K=>K st
 | k,o::r,st,K=>match F k o st with
  | none=>False
  | some (X4,ob)=>match Av k with|.mk k'=>T4 ob (AY F k' r X4 K)|.no=>False
def pU(F:Nat->Oper->St->Option (St×Option Prop))(l:List Oper)(st:St):Nat->St
 | 0=>st
 | i+1=>match l[i]? with
  | none=>pU F l st i
  | some o=>match F i o (pU F l st i) with
   | none=>pU F l st i
   | some (s,_)=>s
theorem uN(F:Nat->Oper->St->Option (St×Option Prop)){l:List Oper}{st0:St}{K:St->Prop} : ∀(r:List Oper) (k:Nat),(∀j,r[j]? = l[k+j]?)->k+r.length=l.length->AY F k r (pU F l st0 k) K->
  (∀i o,k<=i->l[i]? = some o->∃ob,F i o (pU F l st0 i)=some (pU F l st0 (i+1),ob)∧ox ob)∧K (pU F l st0 l.length)
 | [],k,hr,hk,h=>by simp only[List.length_nil,Nat.add_zero] at hk;subst hk;refine⟨λi o hi ho=>?_,h⟩;have:i<l.length:=(F3.1 ho).1;omega
 | o::r,k,hr,hk,h=>by have h0:l[k]? = some o:=(by simpa using (hr 0).symm);simp only[AY,lF] at h;split at h;cases h;rename_i X4 ob hF;obtain⟨h1,h2⟩:=Gh h;have hs:pU F l st0 (k+1)=X4:=(by simp only[pU,h0,hF]);rw[<-hs] at h2;obtain⟨k1,k2⟩:=uN F r (k+1) (λj=>by have:=hr (j+1);simp only[List.getElem?_cons_succ] at this;rw[this];congr 1;omega) (by simp at hk;omega) h2;refine⟨λi o' hi Zt=>?_,k2⟩;rcases Xs hi with rfl|X0;rw[h0] at Zt;obtain rfl:=Oi Zt;exact⟨ob,by rw[hF,hs],h1⟩;exact k1 i o' X0 Zt
end Go.Proofs.YtmdpdknpapjchaaGreatDoor
