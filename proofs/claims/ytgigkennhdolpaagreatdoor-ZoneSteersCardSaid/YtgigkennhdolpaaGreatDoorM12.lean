/- A region that draws its order, walked once, operation by operation: each operation's value is described by a property that no later operation of the head disturbs. The rule for a region that draws its order: its head in whatever order, each operation shown once; its tail in the one order that is forced. A symbolic executor with lists, 11: a drawn region by an invariant of the set of operations that are done. A symbolic executor with lists, 12: states; the operations of a region, by computation. -/
import Derived.Test.YtgigkennhdolpaaGreatDoorM0
import Derived.StillTail
import Derived.Test.YtgigkennhdolpaaGreatDoorM11
namespace Go.Proofs.YtgigkennhdolpaaGreatDoor
open Go.RowKit
section
variable {P:Program}
end
section
variable {P:Program}{ops:Array Oper}{Q:Exit→Act→World→Prop}
def backB(ops:Array Oper)(n:Nat):Bool:=
 (List.range n).all fun i=>match ops[i]? with|some o=>o.after.all fun e=>!Region.binds .any e||decide (e.on<i)|none=>true
def fullList(n g:Nat):Array Bool:=(List.replicate n true++List.replicate g false).toArray
def relyB(ops:Array Oper)(n:Nat):Bool:=
 decide (n<ops.size)&&Region.sinkB .any ops n&&Region.chainB .any ops n&&backB ops n&&Region.seqB .any ops (ops.size-n) n (fullList n (ops.size-n))
def cnt(listed:Array Bool)(n:Nat):Nat:=(List.range n).countP fun i=>!listed.getD i false
theorem countP_one{f g:Nat→Bool}{i:Nat}(hf:f i=true)(hg:g i=false)(he:∀j,j≠i→g j=f j):∀n,(List.range n).countP g+(if i<n then 1 else 0)=(List.range n).countP f
 | 0=>by simp
 | n+1=>by
  rw[List.range_succ,List.countP_append,List.countP_append]
  have ih:=countP_one hf hg he n
  by_cases h:n=i
  ·subst h
   simp[hf,hg] at ih ⊢
   omega
  ·have e:=he n h
   simp only[List.countP_cons,List.countP_nil,e]
   generalize (if f n=true then 1 else 0)=z
   by_cases h1:i<n
   ·rw[if_pos h1] at ih
    rw[if_pos (by omega)]
    omega
   ·rw[if_neg h1] at ih
    rw[if_neg (by omega)]
    omega
theorem cnt_set{listed:Array Bool}{n i:Nat}(hi:i<n)(hs:i<listed.size)(hu:listed.getD i false=false):cnt (listed.setIfInBounds i true) n+1=cnt listed n:=by
 have:=countP_one (f:=fun j=>!listed.getD j false) (g:=fun j=>!(listed.setIfInBounds i true).getD j false) (i:=i) (by simpa using hu) (by simp[hs]) (fun j hj=>by
  show (!(listed.setIfInBounds i true).getD j false)=_
  rw[getD_set_ne false (Ne.symm hj)]) n
 rw[if_pos hi] at this
 exact this
theorem cnt_zero{listed:Array Bool}{n:Nat}(h:cnt listed n=0)(i:Nat)(hi:i<n):listed.getD i false=true:=by
 have:=List.countP_eq_zero.1 h i (List.mem_range.2 hi)
 simpa using this
theorem cnt_pos{listed:Array Bool}{n r:Nat}(h:cnt listed n=r+1):∃i,i<n∧listed.getD i false=false:=by
 have:0<(List.range n).countP fun i=>!listed.getD i false:=by
  have h':(List.range n).countP (fun i=>!listed.getD i false)=r+1:=h
  omega
 obtain⟨i,hi,hu⟩:=List.countP_pos_iff.1 this
 exact⟨i,List.mem_range.1 hi,by simpa using hu⟩
theorem some_ready{listed:Array Bool}{n:Nat}(hb:backB ops n=true)(hn:n≤ops.size)(hsz:listed.size=ops.size):∀(i:Nat),i<n→listed.getD i false=false→Region.ready .any ops listed≠[]:=by
 intro i
 induction i using Nat.strongRecOn with
 | _ i ih=>
  intro hi hu he
  have ho:ops[i]? = some (ops[i]'(by omega)):=Array.getElem?_eq_getElem (by omega)
  by_cases hall:∃e,e∈(ops[i]'(by omega)).after∧Region.binds .any e=true∧listed.getD e.on false=false
  rotate_left
  ·have:i∈Region.ready .any ops listed:=mem_ready.2 ⟨getD_in (by omega) hu,_,ho,fun e hm hbd=>by
    cases hl:listed.getD e.on false with
    | true=>rfl
    | false=>exact absurd ⟨e,hm,hbd,hl⟩ hall⟩
   rw[he] at this
   cases this
  ·obtain⟨e,hm,hbd,hl⟩:=hall
   have h1:=List.all_eq_true.1 hb i (List.mem_range.2 hi)
   rw[ho] at h1
   have h2:=Array.all_eq_true'.1 h1 e hm
   simp only[hbd,Bool.not_true,Bool.false_or,decide_eq_true_eq] at h2
   exact ih e.on h2 (by omega) hl he
theorem full_of{listed:Array Bool}{n:Nat}(inv:HeadInv .any ops n listed)(hn:n<ops.size)(h0:∀i,i<n→listed.getD i false=true):listed=fullList n (ops.size-n):=by
 apply Array.ext_getElem?
 intro i
 have ea:∀l:List Bool,l.toArray[i]? = l[i]?:=fun l=>by simp
 unfold fullList
 rw[ea (List.replicate n true++List.replicate (ops.size-n) false)]
 rcases Nat.lt_or_ge i n with h|h
 ·have h1:=h0 i h
  rw[List.getElem?_append_left (by simpa using h)]
  have hs:i<listed.size:=by rw[inv.size];omega
  rw[Array.getElem?_eq_getElem hs]
  simp[hs] at h1
  simp[h1,h]
 ·rw[List.getElem?_append_right (by simpa using h)]
  simp only[List.length_replicate]
  rcases Nat.lt_or_ge i ops.size with h2|h2
  ·have h1:=inv.tail i h h2
   have hs:i<listed.size:=by rw[inv.size];omega
   rw[Array.getElem?_eq_getElem hs]
   simp[hs] at h1
   rw[h1,List.getElem?_replicate,if_pos (by omega)]
  ·rw[Array.getElem?_eq_none (by rw[inv.size];exact h2),List.getElem?_replicate,if_neg (by omega)]
end
section
variable {P:Program}{co:Bool}{ops:Array Oper}{Q:Exit→Act→World→Prop}
theorem lD{md:Region.Mode}{Q':Exit→Act→World→Prop} : ∀(l:List Oper)(k:Nat)(listed:Array Bool)(a:Act)(w:World),(∀j,l[j]? = ops[k+j]?)→
  Region.seqB md ops l.length k listed=true→eU P co ops Q' l a w→lW P co md ops Q' l.length listed a w
 | [],_,_,_,_,_,hB,h=>⟨by simpa[Region.seqB] using hB,h⟩
 | o::l,k,listed,a,w,hl,hB,h=>by
  have h0:ops[k]? = some o:=by simpa using (hl 0).symm
  simp only[List.length_cons,Region.seqB,Bool.and_eq_true,decide_eq_true_eq] at hB
  refine⟨fun h1=>(by rw[hB.1] at h1;cases h1),fun i hi=>?_⟩
  rw[hB.1] at hi
  have hik:i=k:=by simpa using hi
  subst hik
  have hw:mz P co ops i (eU P co ops Q' l) a w:=by unfold mz;simp only[h0];exact h
  exact wpOpJ_mono (fun a' w' h'=>lD l (i+1) _ a' w' (fun j=>by have:=hl (j+1);simpa[Nat.add_assoc,Nat.add_comm 1 j] using this) hB.2 h') hw
def mV(ops:Array Oper)(n:Nat):Bool:=match Nat.beq n ops.size with|true=>backB ops n|false=>relyB ops n
theorem wpAny_inv{n:Nat}(hB:mV ops n=true)(I:Array Bool→Act→World→Prop)
  (step:∀(listed:Array Bool) (a:Act) (W:World) (i:Nat) (o:Oper),HeadInv .any ops n listed→I listed a W→i<n→ops[i]? = some o→listed.getD i false=false→
   (∀e∈o.after,Region.binds .any e=true→listed.getD e.on false=true)→∀K:Act→World→Prop,(∀a' W',I (listed.setIfInBounds i true) a' W'→K a' W')→
   if Region.wanted o (yielded ops a.tmps)=true then OpJ P co o a W K else K (a.put o.dst undef) W)
  (fin:∀listed a W,I listed a W→(∀i,i<n→listed.getD i false=true)→eU P co ops Q (ops.toList.drop n) a W) :
  ∀(r:Nat) (listed:Array Bool) (a:Act) (W:World),cnt listed n=r→HeadInv .any ops n listed→I listed a W→lW P co .any ops Q (r+(ops.size-n)) listed a W:=by
 have hn:n≤ops.size∧backB ops n=true:=by
  unfold mV at hB
  split at hB
  ·rename_i h
   have:=Nb h
   exact⟨by omega,hB⟩
  ·simp only[relyB,Bool.and_eq_true,decide_eq_true_eq] at hB
   exact⟨by omega,hB.1.2⟩
 obtain⟨hn,hb⟩:=hn
 intro r
 induction r with
 | zero=>
  intro listed a W hcnt inv hI
  have hall:=cnt_zero hcnt
  have hf:=fin listed a W hI hall
  unfold mV at hB
  split at hB
  ·rename_i h
   have he:=Nb h
   subst he
   rw[Nat.sub_self]
   have hd:ops.toList.drop ops.size=[]:=by simp
   rw[hd] at hf
   refine⟨?_,hf⟩
   cases hr:Region.ready .any ops listed with
   | nil=>rfl
   | cons x xs=>
    have hx:x∈Region.ready .any ops listed:=by rw[hr];exact List.mem_cons_self
    obtain⟨hu,o,ho,_⟩:=mem_ready.1 hx
    have hlt:x<ops.size:=(Array.getElem?_eq_some_iff.1 ho).1
    have:=hall x hlt
    rw[getD_both hu] at this
    cases this
  ·simp only[relyB,Bool.and_eq_true,decide_eq_true_eq] at hB
   obtain⟨⟨⟨⟨hn,hs⟩,hc⟩,hb⟩,hq⟩:=hB
   have hdl:(ops.toList.drop n).length=ops.size-n:=by simp
   have:=lD (P:=P) (md:=.any) (Q':=Q) (ops.toList.drop n) n listed a W (fun j=>by simp[List.getElem?_drop])
    (by rw[hdl,full_of inv hn hall];exact hq) hf
   rwa [hdl,←Nat.zero_add (ops.size-n)] at this
 | succ r ih=>
  intro listed a W hcnt inv hI
  obtain⟨u,hu,hun⟩:=cnt_pos hcnt
  rw[show r+1+(ops.size-n)=(r+(ops.size-n))+1 by omega]
  refine⟨fun he=>absurd he (some_ready hb hn inv.size u hu hun),fun i hi=>?_⟩
  obtain⟨hiu,o,ho,hdeps⟩:=mem_ready.1 hi
  have hin:i<n:=by
   unfold mV at hB
   split at hB
   ·rename_i h
    have he:=Nb h
    have hlt:i<ops.size:=(Array.getElem?_eq_some_iff.1 ho).1
    omega
   ·simp only[relyB,Bool.and_eq_true,decide_eq_true_eq] at hB
    obtain⟨⟨⟨⟨hn,hs⟩,hc⟩,hb⟩,hq⟩:=hB
    rcases Nat.lt_or_ge i n with h|h
    ·exact h
    ·exact absurd hi (tail_waits hs hc hn inv (n-u) u rfl hu (getD_in (by rw[inv.size];omega) hun) i h)
  have hsz:i<listed.size:=by rw[inv.size];omega
  have hK:=step listed a W i o inv hI hin ho (getD_both hiu) hdeps
   (fun a' W'=>lW P co .any ops Q (r+(ops.size-n)) (listed.setIfInBounds i true) a' W')
   (fun a' W' h'=>ih _ a' W' (by have:=cnt_set hin hsz (getD_both hiu);omega) (inv.set hi hin) h')
  unfold mz
  rw[ho]
  show if Region.wanted o (yielded ops a.tmps)=true then _ else _
  split
  ·rename_i hw
   rw[if_pos hw] at hK
   exact hK
  ·rename_i hw
   rw[if_neg hw] at hK
   exact hK
theorem region_inv{n:Nat}{a:Act}{w:World}(hB:mV ops n=true)(I:Array Bool→Act→World→Prop)
  (h0:I (Array.replicate ops.size false) a w)
  (step:∀(listed:Array Bool) (a:Act) (W:World) (i:Nat) (o:Oper),HeadInv .any ops n listed→I listed a W→i<n→ops[i]? = some o→listed.getD i false=false→
   (∀e∈o.after,Region.binds .any e=true→listed.getD e.on false=true)→∀K:Act→World→Prop,(∀a' W',I (listed.setIfInBounds i true) a' W'→K a' W')→
   if Region.wanted o (yielded ops a.tmps)=true then OpJ P co o a W K else K (a.put o.dst undef) W)
  (fin:∀listed a W,I listed a W→(∀i,i<n→listed.getD i false=true)→eU P co ops Q (ops.toList.drop n) a W) :
  lW P co .any ops Q ops.size (Array.replicate ops.size false) a w:=by
 have hn:n≤ops.size:=by
  unfold mV at hB
  split at hB
  ·rename_i h
   have:=Nb h
   omega
  ·simp only[relyB,Bool.and_eq_true,decide_eq_true_eq] at hB
   omega
 have hcnt:cnt (Array.replicate ops.size false) n=n:=by
  have:(List.range n).countP (fun i=>!(Array.replicate ops.size false).getD i false)=(List.range n).length:=List.countP_eq_length.2 fun i _=>by
   rw[getD_replicate_false];rfl
  unfold cnt
  rw[this,List.length_range]
 have:=wpAny_inv (P:=P) (Q:=Q) hB I step fin n (Array.replicate ops.size false) a w hcnt
  ⟨by simp,fun j oj _ hl=>(by rw[getD_replicate_false] at hl;cases hl),fun t _ ht=>getD_in (by simpa using ht) (getD_replicate_false _ _)⟩ h0
 rwa [show n+(ops.size-n)=ops.size by omega] at this
end
structure Slot where
 rg:Nat
 k:Nat
 g:List (Nat×Bool)
 v:SV
structure St where
 sl:List (Nat×Slot)
 H:bd
 nm:Nat
 rg:Nat
  /-- In a drawn region: the names that are read, the names that are written, and by which operation. -/
 rd:List (Nat×Nat):=[]
 ws:List (Nat×Nat):=[]
def cI:Value→SV
 | .int k n=>.il k n
 | .bool b=>.bl b
 | x=>.v x
theorem iJ{ρ:Names}{x:Value} : den ρ (cI x) x:=by
 unfold cI
 split<;>rfl
def sameB:Bool→Bool→Bool
 | true,true=>true
 | false,false=>true
 | _,_=>false
theorem sameB_eq{a b:Bool}(h:sameB a b=true):a=b:=by cases a<;>cases b<;>first|rfl|cases h
def atomIn(p:Nat×Bool):List (Nat×Bool)→Bool
 | []=>false
 | q::r=>match Nat.beq p.1 q.1,sameB p.2 q.2 with|true,true=>true|_,_=>atomIn p r
theorem atomIn_mem{p:Nat×Bool} : ∀{l:List (Nat×Bool)},atomIn p l=true→p∈l
 | [],h=>by cases h
 | q::r,h=>by
  simp only[atomIn] at h
  split at h
  ·rename_i h1 h2
   have e1:=Nb h1
   have e2:=sameB_eq h2
   have:p=q:=Prod.ext e1 e2
   rw[this];exact List.mem_cons_self
  ·exact List.mem_cons_of_mem _ (atomIn_mem h)
def subA:List (Nat×Bool)→List (Nat×Bool)→Bool
 | [],_=>true
 | p::r,m=>match atomIn p m with|true=>subA r m|false=>false
theorem mF:∀{l m:List (Nat×Bool)},subA l m=true→∀p∈l,p∈m
 | [],m,_,p,hp=>by cases hp
 | q::r,m,h,p,hp=>by
  simp only[subA] at h
  split at h
  ·rename_i h1
   rcases List.mem_cons.1 hp with rfl|hp
   ·exact atomIn_mem h1
   ·exact mF h p hp
  ·cases h
def ga(o:Oper)(j:Nat):Bool:=o.after.toList.any fun e=>Region.binds .any e&&Nat.beq e.on j
theorem fS{o:Oper}{j:Nat}(h:ga o j=true):∃e∈o.after,Region.binds .any e=true∧e.on=j:=by
 obtain⟨e,he,hb⟩:=List.any_eq_true.1 h
 simp only[Bool.and_eq_true] at hb
 exact⟨e,by simpa using he,hb.1,Nb hb.2⟩
def kA(k t:Nat):List Oper→Bool
 | []=>true
 | o::r=>match o.dst with
  | none=>kA k t r
  | some d=>match Nat.beq d t with
   | false=>kA k t r
   | true=>match ga o k with|true=>kA k t r|false=>false
theorem nU{k t:Nat} : ∀{l:List Oper},kA k t l=true→∀(i:Nat)(o:Oper),l[i]? = some o→o.dst=some t→ga o k=true
 | [],_,i,o,hi,_=>by simp at hi
 | p::r,h,i,o,hi,hd=>by
  cases i with
  | zero=>
   obtain rfl:p=o:=by simpa using hi
   simp only[kA,hd,Nat.beq_refl] at h
   split at h
   ·assumption
   ·cases h
  | succ i=>
   refine nU (l:=r) ?_ i o (by simpa using hi) hd
   simp only[kA] at h
   split at h
   ·exact h
   ·split at h
    ·exact h
    ·split at h
     ·exact h
     ·cases h
def lu(any:Bool)(heads:List Oper)(k:Nat)(rg:Nat)(sl:List (Nat×Slot))(o:Oper)(gk:List (Nat×Bool)):OpF:=fun ex x=>
 match x with
 | .const v=>some (cI v)
 | .global g=>some (.v (.pointer (some ⟨g,0,none⟩)))
 | .func f=>some (.v (.func (.func f) #[] #[]))
 | .tmp t=>match look sl t with
  | none=>none
  | some ⟨srg,sk,sg,sv⟩=>match Nat.beq srg rg with
   | true=>match subA sg (ex++gk) with
    | true=>match any with
     | true=>match ga o sk with|true=>some sv|false=>none
     | false=>some sv
    | false=>none
   | false=>match sg with
    | []=>match any with
     | true=>match kA k t heads with|true=>some sv|false=>none
     | false=>some sv
    | _::_=>none
theorem opIn_def{any:Bool}{heads:List Oper}{k rg:Nat}{sl:List (Nat×Slot)}{o:Oper}{gk:List (Nat×Bool)}{ex:List (Nat×Bool)}{x:Operand} : lu any heads k rg sl o gk ex x=match x with
 | .const v=>some (cI v)
 | .global g=>some (.v (.pointer (some ⟨g,0,none⟩)))
 | .func f=>some (.v (.func (.func f) #[] #[]))
 | .tmp t=>match look sl t with
  | none=>none
  | some s=>match Nat.beq s.rg rg with
   | true=>match subA s.g (ex++gk) with
    | true=>match any with
     | true=>match ga o s.k with|true=>some s.v|false=>none
     | false=>some s.v
    | false=>none
   | false=>match s.g with
    | []=>match any with
     | true=>match kA k t heads with|true=>some s.v|false=>none
     | false=>some s.v
    | _::_=>none:=by
 cases x with
 | tmp t=>
  simp only[lu]
  cases look sl t with
  | none=>rfl
  | some s=>cases s;rfl
 | _=>rfl
def guardOf(any:Bool)(ops:List Oper)(rg:Nat)(sl:List (Nat×Slot))(o:Oper):Option (List (Nat×Bool)):=
 match o.guard with
 | none=>some []
 | some (j,pol)=>match ops[j]? with
  | none=>none
  | some oj=>match oj.dst with
   | none=>none
   | some t=>match look sl t with
    | none=>none
    | some s=>match Nat.beq s.rg rg,Nat.beq s.k j with
     | true,true=>match any with
      | true=>match ga o j with|true=>some ((t,pol)::s.g)|false=>none
      | false=>some ((t,pol)::s.g)
     | _,_=>none
def gimpP(sl:List (Nat×Slot)):List (Nat×Bool)→Prop→Prop
 | [],p=>p
 | (t,pol)::r,p=>match look sl t with
  | none=>gimpP sl r p
  | some s=>match s.v.bool? with
   | none=>gimpP sl r p
   | some b=>b=pol→gimpP sl r p
def gimp(sl:List (Nat×Slot))(g:List (Nat×Bool)):Option Prop→Option Prop
 | none=>none
 | some p=>match g with|[]=>some p|_::_=>some (gimpP sl g p)
def kX(rg:Nat)(sl:List (Nat×Slot))(d:Nat):Bool:=
 match look sl d with
 | none=>true
 | some s=>match Nat.beq s.rg rg with|true=>false|false=>true
mutual
def di:SV→List Nat
 | .p n _=>[n]
 | .s n _ _ _ _=>[n]
 | .g m _ _ _ _=>[m]
 | .gp m _ _ _ _=>[m]
 | .kd m _ _ _ _=>[m]
 | .kq m _ _ _ _=>[m]
 | .m n=>[n]
 | .f _ x y=>fY x++fY y
 | .agg l=>fY l
 | .tup l=>fY l
 | .v _=>[]
 | .il _ _=>[]
 | .bl _=>[]
 | .e=>[]
 | .rs _ _ _=>[]
 | .rp _ _=>[]
def fY:List SV→List Nat
 | []=>[]
 | x::r=>di x++fY r
end
def namesIn(H:bd):List Nat→List Nat
 | []=>[]
 | n::r=>match look H n with|some (.lay cs _)=>fY cs++namesIn H r|_=>namesIn H r
def reach:Nat→bd→List Nat→List Nat
 | 0,_,l=>l
 | k+1,H,l=>match l with
  | []=>[]
  | n::r=>(n::r)++reach k H (namesIn H (n::r))
def readsOp(op:OpF)(H:bd):Op→List Nat
 | .load _ x=>match op [] x with|some v=>di v|none=>[]
 | .store _ x _=>match op [] x with|some v=>di v|none=>[]
 | .lookup _ x _ _=>match op [] x with|some v=>di v|none=>[]
 | .mapUpdate _ x _ _=>match op [] x with|some v=>di v|none=>[]
 | .call c=>match c.callee with
  | .value f=>match op [] f,opL op c.args.toList with|some sf,some l=>reach 4 H (di sf++fY l)|_,_=>[]
  | .builtin .append=>match opL op c.args.toList with|some l=>fY l|none=>[]
  | .builtin .clear=>match opL op c.args.toList with|some l=>fY l|none=>[]
  | _=>[]
 | _=>[]
def restrict(H:bd):List Nat→bd
 | []=>[]
 | n::r=>match look H n with|some sb=>(n,sb)::restrict H r|none=>restrict H r
theorem iP{H:bd} : ∀{l:List Nat}{n:Nat}{sb:SB},look (restrict H l) n=some sb→n∈l∧look H n=some sb
 | [],n,sb,h=>by simp[restrict,look] at h
 | m::r,n,sb,h=>by
  simp only[restrict] at h
  split at h
  ·rename_i sb' hsb
   by_cases e:m=n
   ·subst e
    rw[af] at h
    rw[Oi h] at hsb
    exact⟨List.mem_cons_self,hsb⟩
   ·rw[ae _ _ e] at h
    have:=iP h
    exact⟨List.mem_cons_of_mem _ this.1,this.2⟩
  ·have:=iP h
   exact⟨List.mem_cons_of_mem _ this.1,this.2⟩
def ancB(ops:List Oper):Nat→Nat→Nat→Bool
 | 0,_,_=>false
 | k+1,i,j=>match ops[i]? with
  | none=>false
  | some o=>match ga o j with|true=>true|false=>o.after.toList.any fun e=>Region.binds .any e&&ancB ops k e.on j
def oT(ops:List Oper)(i n:Nat):List (Nat×Nat)→Bool
 | []=>true
 | (m,j)::r=>match Nat.beq m n with
  | true=>match ancB ops 5 i j with|true=>oT ops i n r|false=>false
  | false=>oT ops i n r
def wsAll(ops:List Oper)(i:Nat)(ws:List (Nat×Nat)):List Nat→Bool
 | []=>true
 | n::r=>match oT ops i n ws with|true=>wsAll ops i ws r|false=>false
def rdN(any:Bool)(op:OpF)(H:bd)(o:Op):Option (List Nat):=
 match any with
 | false=>some []
 | true=>laid (readsOp op H o)
def heapFor(any:Bool)(H:bd)(R:List Nat):bd:=match any with|true=>restrict H R|false=>H
def rdsOk(any:Bool)(ops:List Oper)(k:Nat)(R:List Nat)(ws:List (Nat×Nat)):Bool:=match any with|true=>wsAll ops k ws R|false=>true
def putH(w:Option (Nat×SB))(H:bd):bd:=match w with|none=>H|some x=>x::H
def jT(fr:Bool)(nm:Nat):Nat:=match fr with|true=>nm+1|false=>nm
def putW(any:Bool)(w:Option (Nat×SB))(k:Nat)(ws:List (Nat×Nat)):List (Nat×Nat):=match any,w with|true,some (n,_)=>(n,k)::ws|_,_=>ws
def conR(k:Nat):List Nat→List (Nat×Nat)→List (Nat×Nat)
 | [],l=>l
 | n::r,l=>(n,k)::conR k r l
def putR(any:Bool)(k:Nat)(R:List Nat)(rd:List (Nat×Nat)):List (Nat×Nat):=match any with|true=>conR k R rd|false=>rd
def wrB(any:Bool)(ops:List Oper)(k:Nat)(g:List (Nat×Bool))(w:Option (Nat×SB))(fr:Bool)(nm:Nat)(rd ws:List (Nat×Nat)):Bool:=
 match w with
 | none=>match fr with|true=>false|false=>true
 | some (n,_)=>match g,Nat.blt n (jT fr nm) with
  | [],true=>match any with
   | false=>true
   | true=>match oT ops k n ws with|true=>oT ops k n rd|false=>false
  | _,_=>false
def dstB(nt rg:Nat)(sl:List (Nat×Slot))(o:Oper):Bool:=
 match o.dst with
 | none=>true
 | some d=>match isStore o.op,Nat.blt d nt with|false,true=>kX rg sl d|_,_=>false
def putS(rg k:Nat)(g:List (Nat×Bool))(v:SV)(dst:Option Nat)(sl:List (Nat×Slot)):List (Nat×Slot):=match dst with|none=>sl|some d=>(d,⟨rg,k,g,v⟩)::sl
inductive Bx (α:Type) where
 | mk (x:α)
 | no
def incB(n:Nat):Bx Nat:=match n with|0=>.mk 1|m+1=>.mk (m+2)
theorem mU{n:Nat} : incB n=.mk (n+1):=by cases n<;>rfl
def forceN(n:Nat):Bx Nat:=match n with|0=>.mk 0|m+1=>.mk (m+1)
def forceI(n:Int):Bx Int:=match n with
 | .ofNat m=>match forceN m with|.mk m'=>.mk (.ofNat m')|.no=>.no
 | .negSucc m=>match forceN m with|.mk m'=>.mk (.negSucc m')|.no=>.no
def forceX(x:Value):Bx SV:=match x with
 | .int k n=>.mk (.v (.int k n))
 | .bool b=>.mk (.v (.bool b))
 | y=>.mk (.v y)
mutual
def mn:SV→Bx SV
 | .v x=>forceX x
 | .il k n=>match forceI n with|.mk n'=>.mk (.il k n')|.no=>.no
 | .agg l=>match jJ l with|.mk l'=>.mk (.agg l')|.no=>.no
 | .tup l=>match jJ l with|.mk l'=>.mk (.tup l')|.no=>.no
 | .f fn x y=>match jJ x,jJ y with|.mk x',.mk y'=>.mk (.f fn x' y')|_,_=>.no
 | .bl b=>.mk (.bl b)
 | .p n off=>.mk (.p n off)
 | .s n sz off len cap=>.mk (.s n sz off len cap)
 | .e=>.mk .e
 | .rs sz n h=>.mk (.rs sz n h)
 | .rp x off=>.mk (.rp x off)
 | .g m e sz off n=>.mk (.g m e sz off n)
 | .gp m e sz i off=>.mk (.gp m e sz i off)
 | .kd m i sz off n=>.mk (.kd m i sz off n)
 | .kq m i sz j off=>.mk (.kq m i sz j off)
 | .m n=>.mk (.m n)
def jJ:List SV→Bx (List SV)
 | []=>.mk []
 | x::r=>match mn x,jJ r with|.mk x',.mk r'=>.mk (x'::r')|_,_=>.no
end
theorem forceN_eq{n:Nat} : forceN n=.mk n:=by cases n<;>rfl
theorem forceI_eq{n:Int} : forceI n=.mk n:=by cases n<;>simp only[forceI,forceN_eq]
theorem forceX_eq{x:Value} : forceX x=.mk (.v x):=by cases x<;>rfl
mutual
theorem forceV_eq:∀(x:SV),mn x=.mk x
 | .v x=>forceX_eq
 | .il k n=>by simp only[mn,forceI_eq]
 | .agg l=>by simp only[mn,fg l]
 | .tup l=>by simp only[mn,fg l]
 | .f fn x y=>by simp only[mn,fg x,fg y]
 | .bl b=>rfl
 | .p _ _=>rfl
 | .s _ _ _ _ _=>rfl
 | .e=>rfl
 | .rs _ _ _=>rfl
 | .rp _ _=>rfl
 | .g _ _ _ _ _=>rfl
 | .gp _ _ _ _ _=>rfl
 | .kd _ _ _ _ _=>rfl
 | .kq _ _ _ _ _=>rfl
 | .m _=>rfl
theorem fg:∀(x:List SV),jJ x=.mk x
 | []=>rfl
 | x::r=>by simp only[jJ,forceV_eq x,fg r]
end
def oB(rg k:Nat)(g:List (Nat×Bool))(v:SV)(dst:Option Nat)(sl:List (Nat×Slot)):Bx (List (Nat×Slot)):=match dst with
 | none=>.mk sl
 | some d=>match mn v with|.mk v'=>.mk ((d,⟨rg,k,g,v'⟩)::sl)|.no=>.no
def putHf(w:Option (Nat×SB))(H:bd):Bx bd:=match w with
 | none=>.mk H
 | some (n,.lay cs t)=>match jJ cs with|.mk cs'=>.mk ((n,.lay cs' t)::H)|.no=>.no
 | some x=>.mk (x::H)
def putNf(fr:Bool)(nm:Nat):Bx Nat:=match fr with|true=>incB nm|false=>.mk nm
theorem ib{rg k:Nat}{g:List (Nat×Bool)}{v:SV}{dst:Option Nat}{sl:List (Nat×Slot)} : oB rg k g v dst sl=.mk (putS rg k g v dst sl):=by
 cases dst with
 | none=>rfl
 | some d=>simp only[oB,forceV_eq];rfl
theorem putHf_eq{w:Option (Nat×SB)}{H:bd} : putHf w H=.mk (putH w H):=by
 unfold putHf
 split
 ·rfl
 ·simp only[fg];rfl
 ·rfl
theorem putNf_eq{fr:Bool}{nm:Nat} : putNf fr nm=.mk (jT fr nm):=by
 cases fr
 ·rfl
 ·exact mU
def jr{PP:Program}{C:Cx PP}(Γ:List (Con C))(nt:Nat)(any:Bool)(ops heads:List Oper)(k:Nat)(o:Oper):St→Option (St×Option Prop)
 | ⟨sl,H,nm,rg,rd,ws⟩=>match guardOf any ops rg sl o with
  | none=>none
  | some g0=>match laid g0 with
   | none=>none
   | some g=>match rdN any (lu any heads k rg sl o g) H o.op with
    | none=>none
    | some R=>match rdsOk any ops k R ws,D Γ (fzB g) (lu any heads k rg sl o g) (heapFor any H R) nm o.op with
     | true,some ⟨ob,v,w,fr⟩=>match wrB any ops k g w fr nm rd ws,dstB nt rg sl o with
      | true,true=>match oB rg k g v o.dst sl,putHf w H,putNf fr nm with
       | .mk sl',.mk H',.mk nm'=>match any with
        | true=>match laid (putR true k R rd),laid (putW true w k ws) with
         | some rd',some ws'=>some (⟨sl',H',nm',rg,rd',ws'⟩,gimp sl g ob)
         | _,_=>none
        | false=>some (⟨sl',H',nm',rg,rd,ws⟩,gimp sl g ob)
       | _,_,_=>none
      | _,_=>none
     | _,_=>none
def also(p:Option Prop)(q:Prop):Prop:=match p with|none=>q|some p=>p∧q
theorem also_ok{p:Option Prop}{q:Prop}(h:also p q):mb p∧q:=by
 cases p with
 | none=>exact⟨trivial,h⟩
 | some p=>exact h
def evOps(F:Nat→Oper→St→Option (St×Option Prop)):Nat→List Oper→St→(St→Prop)→Prop
 | _,[],st,K=>K st
 | k,o::r,st,K=>match F k o st with
  | none=>False
  | some (st',ob)=>match incB k with|.mk k'=>also ob (evOps F k' r st' K)|.no=>False
def stAt(F:Nat→Oper→St→Option (St×Option Prop))(l:List Oper)(st:St):Nat→St
 | 0=>st
 | i+1=>match l[i]? with
  | none=>stAt F l st i
  | some o=>match F i o (stAt F l st i) with
   | none=>stAt F l st i
   | some (s,_)=>s
theorem evOps_at(F:Nat→Oper→St→Option (St×Option Prop)){l:List Oper}{st0:St}{K:St→Prop} : ∀(r:List Oper)(k:Nat),(∀j,r[j]? = l[k+j]?)→k+r.length=l.length→evOps F k r (stAt F l st0 k) K→
  (∀i o,k≤i→l[i]? = some o→∃ob,F i o (stAt F l st0 i)=some (stAt F l st0 (i+1),ob)∧mb ob)∧K (stAt F l st0 l.length)
 | [],k,hr,hk,h=>by
  simp only[List.length_nil,Nat.add_zero] at hk
  subst hk
  refine⟨fun i o hi ho=>?_,h⟩
  have:i<l.length:=(List.getElem?_eq_some_iff.1 ho).1
  omega
 | o::r,k,hr,hk,h=>by
  have h0:l[k]? = some o:=by simpa using (hr 0).symm
  simp only[evOps,mU] at h
  split at h
  ·cases h
  ·rename_i st' ob hF
   obtain⟨h1,h2⟩:=also_ok h
   have hs:stAt F l st0 (k+1)=st':=by simp only[stAt,h0,hF]
   rw[←hs] at h2
   obtain⟨k1,k2⟩:=evOps_at F r (k+1) (fun j=>by have:=hr (j+1);simp only[List.getElem?_cons_succ] at this;rw[this];congr 1;omega) (by simp at hk;omega) h2
   refine⟨fun i o' hi ho'=>?_,k2⟩
   rcases Nat.eq_or_lt_of_le hi with rfl|hlt
   ·rw[h0] at ho'
    obtain rfl:=Oi ho'
    exact⟨ob,by rw[hF,hs],h1⟩
   ·exact k1 i o' hlt ho'
end Go.Proofs.YtgigkennhdolpaaGreatDoor
