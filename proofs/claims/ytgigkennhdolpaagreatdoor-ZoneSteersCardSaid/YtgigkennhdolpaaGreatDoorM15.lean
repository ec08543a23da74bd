/- A symbolic executor with lists, 16: regions; calls that are entered. -/
import Derived.Test.YtgigkennhdolpaaGreatDoorM14
import Derived.RangeFuncCalls
import Derived.RangeFuncFrom
import Derived.RangeFuncLeaves
import Derived.OrdersIn
import Derived.TacticsIn
namespace Go.Proofs.YtgigkennhdolpaaGreatDoor
open Go.RowKit
section
variable {PP:Program}{C:Cx PP}{Γ:List (Con C)}{nt:Nat}{ops:Array Oper}{heads:List Oper}{st0:St}{S:Nat→St}{w0:World}{ρe:Names}{ρ0:Names}{a0:Act}{W1:World}
theorem head_done(F:cC Γ nt ops.toList heads st0 S)(h0:RI C nt w0 ρe st0 ρ0 a0 W1){listed:Array Bool}{ρ:Names}{a:Act}{W:World}(h:HI C nt w0 ρe heads st0 S ρ0 a0 listed ρ a W)
  (hall:∀i,i<heads.length→listed.getD i false=true):RI C nt w0 ρe (S heads.length) ρ a W:=by
 have hrg:=F.rg heads.length (Nat.le_refl _)
 have hk:∀t s,look (S heads.length).sl t=some s→s.rg=st0.rg→listed.getD s.k false=true:=fun t s hs hr=>hall s.k (F.ins _ (Nat.le_refl _) t s hs hr).1
 refine⟨⟨h.mem,fun n sb hn=>?_,h.sz,h.df⟩,fun t s hs=>?_,fun t s hs hr hg=>?_,fun t s hs hr=>?_,fun t s hs hr p hp=>?_⟩
 ·rcases F.heap _ (Nat.le_refl _) n sb hn with ⟨h1,h2⟩|⟨j,hj,hwj,h3⟩
  ·exact h.con n sb h1 fun i sb' hi hwi=>absurd hwi (h2 i sb' hi)
  ·exact h.wr j n sb hj (hall j hj) hwj fun j' sb' h1 h2 h4=>absurd h4 (h3 j' sb' h1 h2)
 ·by_cases hr:s.rg=st0.rg
  ·omega
  ·have:=h0.rgs t s (F.out _ (Nat.le_refl _) t s hs hr)
   omega
 ·rw[hrg] at hr
  have hs0:=F.out _ (Nat.le_refl _) t s hs hr
  obtain⟨y,h1,h2⟩:=h0.out t s hs0 hr hg
  refine⟨y,bF h.le _ _ h1,?_⟩
  rw[h.out t ?_]
  ·exact h2
  ·intro i o hi hd
   exfalso
   obtain⟨g,r,-,e,-⟩:=F.own hi hd
   rw[hs] at e
   rw[Oi e] at hr
   exact hr rfl
 ·rw[hrg] at hr
  exact h.ins t s hs hr (hk t s hs hr)
 ·rw[hrg] at hr
  obtain⟨s',q1,q2,-⟩:=F.atoms (md:=ops) (n:=heads.length) rfl s.k t s rfl hs hr p hp
  exact⟨s',q1,by rw[hrg];exact q2⟩
theorem head_start(F:cC Γ nt ops.toList heads st0 S)(h0:RI C nt w0 ρe st0 ρ0 a0 W1){listed:Array Bool}(hl:∀i,listed.getD i false=false):HI C nt w0 ρe heads st0 S ρ0 a0 listed ρ0 a0 W1:=by
 have g:Gr W1 W1:=Gr.refl W1
 have h1:=F.nm (i:=0) (j:=heads.length) (by omega) (Nat.le_refl _)
 rw[F.s0] at h1
 exact⟨(h0.base.mem.gr g).up h1,.refl _,fun m b hm=>.inl (h0.base.mem.dom m b hm),fun m b hm=>.inl (h0.base.mem.domv m b hm).1,fun m sb hm _=>(h0.base.hok.gr g).blk m sb hm,
  (fun i m sb _ h=>by rw[hl] at h;cases h),(fun t s _ _ h=>by rw[hl] at h;cases h),fun t _=>rfl,h0.base.sz,h0.base.df⟩
end
def oY(n:Nat):List Nat→Bool
 | []=>false
 | m::r=>match Nat.beq m n with|true=>true|false=>oY n r
abbrev Inl:=Nat→List SV→bd→Nat→(SV→bd→Nat→Prop)→Prop
def gu{PP:Program}(C:Cx PP)(I:Inl):Prop:=
 ∀f args H nm K,I f args H nm K→(∀(a:Array Value) (w:World),(callFunc f a).run C.P w=.ok (.enter f a) w)∧(∀a:Array Value,NS C.P (callFunc f a))∧∀(ρ:Names) (W:World) (vs:List Value),HOk C H ρ W→(∀n b,ρ.n n=some b→n<nm)→(∀e l,ρ.v e=some l→e<nm∧l.o<nm)→(∀m i l,ρ.k m i=some l→m<nm)→aj ρ args vs→
  bP C.P C.co f vs.toArray W fun e W'=>∃v val H' nm' ρ',e=.returned val∧K v H' nm'∧Mem C W ρ.noD nm' ρ' W'∧(∀n sb,look H' n=some sb→da ρ' W' n sb)∧den ρ' v val
def inlOf(inls:List Nat)(nt:Nat)(ops:List Oper)(st:St)(o:Oper):Option (Nat×List SV):=
 match o.op with
 | .call c=>match c.callee with
  | .value x=>match guardOf false ops st.rg st.sl o,lu false ops 0 st.rg st.sl o [] [] x,dstB nt st.rg st.sl o with
   | some [],some sf,true=>match callee sf,opL (lu false ops 0 st.rg st.sl o []) c.args.toList with
    | some (g,first,captured),some args=>match oY g inls with
     | true=>match laid (first++args++captured) with|some al=>some (g,al)|none=>none
     | false=>none
    | _,_=>none
   | _,_,_=>none
  | _=>none
 | _=>none
def nilLen:SV→Option Nat
 | .kd _ _ _ _ n=>some n
 | .e=>some 0
 | .rs _ n _=>some n
 | .g _ _ _ _ n=>some n
 | _=>none
def nilOp:BinOp→Option Bool
 | .eql=>some false
 | .neq=>some true
 | _=>none
def isNilS:SV→Bool
 | .v (.slice none 0 0)=>true
 | _=>false
def nilOf{PP:Program}(C:Cx PP)(nt:Nat)(ops:List Oper)(st:St)(o:Oper):Option (Nat×Bool):=
 match o.op with
 | .binOp b t x y _=>match nilOp b,fQ C t,guardOf false ops st.rg st.sl o,dstB nt st.rg st.sl o with
  | some neg,some _,some [],true=>match lu false ops 0 st.rg st.sl o [] [] x,lu false ops 0 st.rg st.sl o [] [] y with
   | some u,some v=>match isNilS v,nilLen u with|true,some n=>some (n,neg)|_,_=>none
   | _,_=>none
  | _,_,_,_=>none
 | _=>none
def evOp{PP:Program}{C:Cx PP}(Γ:List (Con C))(nt:Nat)(I:Inl)(inls:List Nat)(ops:List Oper)(k:Nat)(o:Oper):St→(St→Prop)→Prop
 | ⟨sl,H,nm,rg,rd,ws⟩,M=>match inlOf inls nt ops ⟨sl,H,nm,rg,rd,ws⟩ o with
  | some (f,al)=>match jJ al with|.mk al'=>(I f al' H nm fun v H nm=>match oB rg k [] v o.dst sl with|.mk sl'=>M ⟨sl',H,nm,rg,rd,ws⟩|.no=>False)|.no=>False
  | none=>match nilOf C nt ops ⟨sl,H,nm,rg,rd,ws⟩ o with
   | some (n,neg)=>∀b:Bool,(b=true→n=0)→match oB rg k [] (.v (.bool (b != neg))) o.dst sl with|.mk sl'=>M ⟨sl',H,nm,rg,rd,ws⟩|.no=>False
   | none=>match jr Γ nt false ops ops k o ⟨sl,H,nm,rg,rd,ws⟩ with
    | none=>False
    | some (st',ob)=>also ob (M st')
inductive GD where
 | plain
 | go (t:Nat)
 | skip (g:List (Nat×Bool))
 | both (t j:Nat) (pol b:Bool)
def gdLit(rg:Nat)(sl:List (Nat×Slot))(t:Nat):Option Bool:=
 match look sl t with
 | none=>none
 | some ⟨srg,_,sg,v⟩=>match Nat.beq srg rg,sg,v with
  | true,[],.bl b=>some b
  | _,_,_=>none
def gdOf(ops:List Oper)(rg:Nat)(sl:List (Nat×Slot))(o:Oper):GD:=
 match o.guard with
 | none=>.plain
 | some (j,pol)=>match ops[j]? with
  | none=>.plain
  | some oj=>match oj.dst with
   | none=>.plain
   | some t=>match look sl t with
    | none=>.plain
    | some ⟨srg,sk,sg,v⟩=>match Nat.beq srg rg,Nat.beq sk j with
     | true,true=>match sg with
      | []=>match v with
       | .bl b=>match b==pol with|true=>.go t|false=>.skip [(t,pol)]
       | .v (.bool b)=>.both t j pol b
       | _=>.plain
      | (t',pol')::_=>match gdLit rg sl t' with
       | some b=>match b==pol' with|true=>.plain|false=>.skip [(t',pol')]
       | none=>.plain
     | _,_=>.plain
def bare(o:Oper):Oper:=⟨o.dst,o.op,o.type,o.pos,o.after,none⟩
def evSkip(nt:Nat)(k:Nat)(g:List (Nat×Bool))(o:Oper):St→(St→Prop)→Prop
 | ⟨sl,H,nm,rg,rd,ws⟩,M=>match dstB nt rg sl o with
  | true=>match oB rg k g (.bl false) o.dst sl with|.mk sl'=>M ⟨sl',H,nm,rg,rd,ws⟩|.no=>False
  | false=>False
def jS(t:Nat)(pol:Bool):List (Nat×Bool)→List (Nat×Bool)
 | []=>[]
 | (t',p')::r=>match Nat.beq t' t,sameB p' pol with|true,true=>jS t pol r|_,_=>(t',p')::jS t pol r
def iO(rg t:Nat)(pol:Bool):Nat×Slot→Nat×Slot
 | (n,⟨srg,k,g,v⟩)=>match g with
  | []=>(n,⟨srg,k,[],v⟩)
  | x::g'=>match Nat.beq srg rg with
   | false=>(n,⟨srg,k,x::g',v⟩)
   | true=>(n,⟨srg,k,jS t pol (x::g'),v⟩)
def ungR(rg t:Nat)(pol:Bool):List (Nat×Slot)→List (Nat×Slot)→Option (List (Nat×Slot))
 | [],acc=>some acc
 | (n,⟨srg,k,g,v⟩)::r,acc=>match g with
  | []=>ungR rg t pol r ((n,⟨srg,k,[],v⟩)::acc)
  | x::g'=>match Nat.beq srg rg with
   | false=>ungR rg t pol r ((n,⟨srg,k,x::g',v⟩)::acc)
   | true=>match laid (jS t pol (x::g')) with
    | some g''=>ungR rg t pol r ((n,⟨srg,k,g'',v⟩)::acc)
    | none=>none
def revO{α:Type} : List α→List α→Option (List α)
 | [],acc=>some acc
 | x::r,acc=>revO r (x::acc)
def mC(rg t:Nat)(pol:Bool)(l:List (Nat×Slot)):Option (List (Nat×Slot)):=match ungR rg t pol l [] with|some l'=>revO l' []|none=>none
theorem ungR_eq{rg t:Nat}{pol:Bool} : ∀{l acc o:List (Nat×Slot)},ungR rg t pol l acc=some o→o=(l.map (iO rg t pol)).reverse++acc
 | [],acc,o,h=>by
  obtain rfl:=Oi h
  rfl
 | (n,⟨srg,k,g,v⟩)::r,acc,o,h=>by
  simp only[ungR] at h
  have key:∀x,ungR rg t pol r (x::acc)=some o→x=iO rg t pol (n,⟨srg,k,g,v⟩)→o=(((n,⟨srg,k,g,v⟩)::r).map (iO rg t pol)).reverse++acc:=fun x hx e=>by
   rw[ungR_eq hx,e]
   simp
  split at h
  ·exact key _ h rfl
  ·split at h
   ·rename_i hr
    exact key _ h (by simp only[iO,hr])
   ·rename_i hr
    split at h
    ·rename_i g'' hl
     refine key _ h ?_
     rw[cZ hl]
     simp only[iO,hr]
    ·cases h
theorem revO_eq{α:Type} : ∀{l acc o:List α},revO l acc=some o→o=l.reverse++acc
 | [],acc,o,h=>by
  obtain rfl:=Oi h
  rfl
 | x::r,acc,o,h=>by
  rw[revO_eq (l:=r) h]
  simp
theorem ungSf_eq{rg t:Nat}{pol:Bool}{l o:List (Nat×Slot)}(h:mC rg t pol l=some o):o=l.map (iO rg t pol):=by
 unfold mC at h
 split at h
 ·rename_i l' hl
  rw[revO_eq h,ungR_eq hl]
  simp
 ·cases h
def evG{PP:Program}{C:Cx PP}(Γ:List (Con C))(nt:Nat)(I:Inl)(inls:List Nat)(ops:List Oper)(sp:Bool)(k:Nat)(o:Oper):St→(St→Prop)→Prop
 | ⟨sl,H,nm,rg,rd,ws⟩,M=>match sp with
  | false=>evOp Γ nt I inls ops k o ⟨sl,H,nm,rg,rd,ws⟩ M
  | true=>match gdOf ops rg sl o with
   | .plain=>evOp Γ nt I inls ops k o ⟨sl,H,nm,rg,rd,ws⟩ M
   | .go _=>evOp Γ nt I inls ops k (bare o) ⟨sl,H,nm,rg,rd,ws⟩ M
   | .skip g=>evSkip nt k g o ⟨sl,H,nm,rg,rd,ws⟩ M
   | .both t j pol b=>
    (b=pol→match oB rg j [] (.bl pol) (some t) sl with|.mk sl'=>(match mC rg t pol sl' with|some sl''=>evOp Γ nt I inls ops k (bare o) ⟨sl'',H,nm,rg,rd,ws⟩ M|none=>False)|.no=>False) ∧
    (b = !pol→match oB rg j [] (.bl (!pol)) (some t) sl with|.mk sl'=>(match mC rg t (!pol) sl' with|some sl''=>evSkip nt k [(t,pol)] o ⟨sl'',H,nm,rg,rd,ws⟩ M|none=>False)|.no=>False)
def evSeq{PP:Program}{C:Cx PP}(Γ:List (Con C))(nt:Nat)(I:Inl)(inls:List Nat)(ops:List Oper)(sp:Bool):Nat→List Oper→St→(St→Prop)→Prop
 | _,[],st,K=>K st
 | k,o::r,st,K=>match incB k with
  | .mk k'=>evG Γ nt I inls ops sp k o st fun st'=>evSeq Γ nt I inls ops sp k' r st' K
  | .no=>False
def hmode(fl:List Nat)(id:Nat):Nat:=match oY id fl with|true=>1|false=>match oY (2000+id) fl with|true=>2|false=>0
def isPlain(full:Nat):Op→Bool
 | .store ..=>match full with|1=>true|_=>false
 | .mapUpdate ..=>false
 | .call c=>match full with|2=>(match c.callee with|.value _=>false|_=>true)|_=>true
 | _=>true
def fJ(full:Nat):List Oper→Nat
 | []=>0
 | o::r=>match isPlain full o.op with|true=>fJ full r+1|false=>0
def takeO:Nat→List Oper→List Oper
 | 0,_=>[]
 | _,[]=>[]
 | n+1,x::r=>x::takeO n r
theorem takeO_eq:∀(n:Nat)(l:List Oper),takeO n l=l.take n
 | 0,l=>by simp[takeO]
 | n+1,[]=>by simp[takeO]
 | n+1,x::r=>by simp[takeO,takeO_eq n r]
def m5{PP:Program}{C:Cx PP}(Γ:List (Con C))(nt:Nat)(I:Inl)(inls:List Nat)(full:Nat)(sp:Bool)(ops:Array Oper)(draw:Bool):St→(St→Prop)→Prop
 | ⟨sl,H,nm,rg,_,_⟩,K=>match draw with
  | false=>match incB rg with|.mk rg'=>evSeq Γ nt I inls ops.toList sp 0 ops.toList ⟨sl,H,nm,rg',[],[]⟩ K|.no=>False
  | true=>match incB rg with
   | .no=>False
   | .mk rg'=>evOps (jr Γ nt true ops.toList (takeO (fJ full ops.toList) ops.toList)) 0 (takeO (fJ full ops.toList) ops.toList) ⟨sl,H,nm,rg',[],[]⟩
     fun st=>evSeq Γ nt I inls ops.toList sp (fJ full ops.toList) (ops.toList.drop (fJ full ops.toList)) st K
def regionB(full:Nat)(ops:Array Oper)(draw:Bool):Bool:=match draw with|true=>mV ops (fJ full ops.toList)|false=>true
section
variable {PP:Program}{C:Cx PP}{Γ:List (Con C)}{nt:Nat}{w0:World}{ρe ρ:Names}{a:Act}{W:World}{I:Inl}{inls:List Nat}
theorem Rp.enter{sl:List (Nat×Slot)}{H:bd}{nm rg:Nat}{rd ws:List (Nat×Nat)}(h:Rp C nt w0 ρe ⟨sl,H,nm,rg,rd,ws⟩ ρ a W):RI C nt w0 ρe ⟨sl,H,nm,rg+1,[],[]⟩ ρ a W:=by
 have hne:∀t s,look sl t=some s→s.rg≠rg+1:=fun t s hs e=>by
  have:s.rg≤rg:=h.rgs t s hs
  omega
 exact⟨h.base,fun t s hs=>Nat.le_succ_of_le (h.rgs t s hs),fun t s hs _ hg=>h.de t s hs hg,fun t s hs hr=>absurd hr (hne t s hs),fun t s hs hr=>absurd hr (hne t s hs)⟩
theorem RI.leave{st:St}(h:RI C nt w0 ρe st ρ a W):Rp C nt w0 ρe st ρ a W:=
 ⟨h.base,h.rgs,fun t s hs hg=>by
  by_cases hr:s.rg=st.rg
  ·exact(h.ins t s hs hr).1 (by rw[hg];exact holds_nil a)
  ·exact h.out t s hs hr hg⟩
theorem inl_step{ops:Array Oper}{st:St}{o:Oper}{f k:Nat}{al:List SV}  (hI:gu C I)(h:RI C nt w0 ρe st ρ a W)(hs:inlOf inls nt ops.toList st o=some (f,al)){M:St→Prop}
  (he:I f al st.H st.nm fun v H nm=>M ⟨putS st.rg k [] v o.dst st.sl,H,nm,st.rg,st.rd,st.ws⟩) {K:Act→World→Prop} (hK:∀st' ρ' a' W',M st'→RI C nt w0 ρe st' ρ' a' W'→K a' W') :
  if Region.wanted o (yielded ops a.tmps)=true then dC C.P C.co o a W K else K (a.put o.dst undef) W:=by
 obtain⟨dst,oo,ty,pos,after,guard⟩:=o
 unfold inlOf at hs
 split at hs
 ·rename_i c hoo
  obtain rfl:oo=.call c:=hoo
  split at hs
  ·rename_i x hcal
   split at hs
   ·rename_i sf hg hsf hdst
    split at hs
    ·rename_i g first captured args hcl hargs
     split at hs
     ·split at hs
      ·rename_i al' hal
       obtain⟨rfl,rfl⟩:=Prod.mk.inj (Oi hs)
       obtain rfl:=cZ hal
       obtain⟨c1,-,-⟩:=jH h hg
       rw[if_pos (c1.2 (holds_nil a))]
       obtain⟨en,-,hc⟩:=hI _ _ _ _ _ he
       have hop:=kO (heads:=ops.toList) (k:=0) (o:=⟨dst,.call c,ty,pos,after,guard⟩) h (holds_nil a)
       obtain⟨fv,cv,hev,hall⟩:=ln hop hsf hcl hargs
       have hcall:=hc ρ W _ h.base.hok h.base.mem.dom h.base.mem.domv h.base.mem.domk hall
       unfold dC
       rw[mZ hcal hev en rfl]
       show bP _ _ _ _ _ _
       have e:(fv++c.args.map a.eval++cv).toList.toArray=fv++c.args.map a.eval++cv:=by simp
       rw[e] at hcall
       refine hcall.mono ?_
       rintro e W' ⟨v,val,H',nm',ρ',rfl,hM,hmem,hblk,hden⟩
       refine hK _ ρ' _ W' hM ?_
       obtain⟨d1,d2⟩:=jN hdst
       have hb:∀dd:Option Nat,Base C nt w0 ρe H' nm' ρ' (a.put dd val) W':=fun dd=>⟨h.base.mem.trans hmem,hblk,by cases dd<;>simp[Act.put,h.base.sz],by cases dd<;>exact h.base.df⟩
       cases dst with
       | none=>
        refine⟨hb none,h.rgs,fun t s hs hr hg'=>?_,fun t s hs hr=>?_,h.cl⟩
        ·obtain⟨x,h1,h2⟩:=h.out t s hs hr hg'
         exact⟨x,bF hmem.le.unD _ _ h1,h2⟩
        ·obtain⟨h1,h2⟩:=h.ins t s hs hr
         exact⟨fun hh=>let ⟨x,k1,k2⟩:=h1 hh;⟨x,bF hmem.le.unD _ _ k1,k2⟩,h2⟩
       | some d=>
        obtain⟨hd1,hfr⟩:=d2 d rfl
        have hdl:d<a.tmps.size:=by rw[h.base.sz];exact hd1
        exact h.put hmem.le.unD hfr (fun p hp=>by cases hp) ⟨fun _=>⟨val,hden,fG hdl⟩,fun hn=>absurd (holds_nil _) hn⟩ (hb (some d))
      ·cases hs
     ·cases hs
    ·cases hs
   ·cases hs
  ·cases hs
 ·cases hs
theorem run_nil_slice{P:Program}{w:World}{d:Nat}{t e:TypeId}{ad:Option Addr}{l c:Nat}(ht:P.underlying t=some (.slice e)):(Op.equalIn (d+1) t (.slice ad l c) (.slice none 0 0)).run P w=.ok ad.isNone w:=by
 cases ad<;>simp[Op.equalIn,run_underlying ht]
theorem nilLen_ok{u:SV}{n:Nat}{y:Value}(h:nilLen u=some n)(hd:den ρ u y):∃a l c,y=.slice a l c∧(a=none→n=0):=by
 unfold nilLen at h
 split at h
 ·rename_i m i sz off n'
  obtain rfl:=Oi h
  obtain⟨l,h1,h3,h4,a',rfl,h6⟩:=hd
  refine⟨a',_,_,rfl,fun ha=>?_⟩
  rcases Nat.eq_zero_or_pos (l.cap-off) with h0|h0
  ·omega
  ·obtain⟨b,-,k2⟩:=h6 (by omega)
   rw[ha] at k2;cases k2
 ·obtain rfl:=Oi h
  obtain⟨a,rfl⟩:=hd
  exact⟨a,0,0,rfl,fun _=>rfl⟩
 ·rename_i sz n' f
  obtain rfl:=Oi h
  obtain⟨a,cap,rfl,h2,h3⟩:=hd
  refine⟨a,_,cap,rfl,fun ha=>?_⟩
  rcases Nat.eq_zero_or_pos n' with h0|h0
  ·exact h0
  ·obtain⟨b,o,u,k1,-⟩:=h3 0 h0
   rw[ha] at k1;cases k1
 ·rename_i m e sz off n'
  obtain rfl:=Oi h
  obtain⟨l,h1,h2,h3,h4,a',rfl,h6⟩:=hd
  refine⟨a',_,_,rfl,fun ha=>?_⟩
  rcases Nat.eq_zero_or_pos (l.cap-off) with h0|h0
  ·omega
  ·obtain⟨b,-,k2⟩:=h6 (by omega)
   rw[ha] at k2;cases k2
 ·cases h
theorem isNilS_ok{v:SV}{y:Value}(h:isNilS v=true)(hd:den ρ v y):y=.slice none 0 0:=by
 unfold isNilS at h
 split at h
 ·exact hd
 ·cases h
theorem nil_step{ops:Array Oper}{st:St}{o:Oper}{k n:Nat}{neg:Bool}  (h:RI C nt w0 ρe st ρ a W)(hs:nilOf C nt ops.toList st o=some (n,neg)){M:St→Prop}
  (he:∀b:Bool,(b=true→n=0)→M ⟨putS st.rg k [] (.v (.bool (b != neg))) o.dst st.sl,st.H,st.nm,st.rg,st.rd,st.ws⟩) {K:Act→World→Prop} (hK:∀st' ρ' a' W',M st'→RI C nt w0 ρe st' ρ' a' W'→K a' W') :
  if Region.wanted o (yielded ops a.tmps)=true then dC C.P C.co o a W K else K (a.put o.dst undef) W:=by
 obtain⟨dst,oo,ty,pos,after,guard⟩:=o
 unfold nilOf at hs
 split at hs
 ·rename_i bo t x y yt hoo
  obtain rfl:oo=.binOp bo t x y yt:=hoo
  split at hs
  ·rename_i ng ei hng hei hg hdst
   split at hs
   ·rename_i u v hu hv
    split at hs
    ·rename_i n' hb hnl
     obtain⟨rfl,rfl⟩:=Prod.mk.inj (Oi hs)
     obtain⟨c1,-,-⟩:=jH h hg
     rw[if_pos (c1.2 (holds_nil a))]
     have hop:=kO (heads:=ops.toList) (k:=0) (o:=⟨dst,.binOp bo t x y yt,ty,pos,after,guard⟩) h (holds_nil a)
     obtain⟨ad,l,c,e1,h0⟩:=nilLen_ok hnl (hop.get hu)
     have e2:=isNilS_ok hb (hop.get hv)
     obtain⟨inf,z,ht,-⟩:=cr (e:=ei.1) (ei:=ei.2) hei
     have heq:(Op.equal t (.slice ad l c) (.slice none 0 0)).run C.P W=.ok ad.isNone W:=by
      show (Op.equalIn (9999+1) t (.slice ad l c) (.slice none 0 0)).run C.P W=_
      exact run_nil_slice ht
     have hrun:(execOp a.eval ⟨dst,.binOp bo t x y yt,ty,pos,after,guard⟩).run C.P W=.ok (.value (.bool (ad.isNone != ng))) W:=by
      refine gC ?_ ?_
      ·rw[e1,e2]
       unfold eqGuard
       cases bo<;>rfl
      ·rw[e1,e2]
       cases bo<;>simp only[nilOp] at hng<;>first
        | (cases hng;done)
        | (obtain rfl:=Oi hng
           show (do pure (.bool (←Op.equal t (.slice ad l c) (.slice none 0 0))):Sem Value).run C.P W=_
           simp only[Sem.run_bind,heq,Result.andThen_ok,Sem.run_pure,Bool.bne_false])
        | (obtain rfl:=Oi hng
           show (do pure (.bool (!(←Op.equal t (.slice ad l c) (.slice none 0 0)))):Sem Value).run C.P W=_
           simp only[Sem.run_bind,heq,Result.andThen_ok,Sem.run_pure,Bool.bne_true])
     refine bK hrun (hK _ ρ _ W (he ad.isNone fun hn=>h0 (by simpa using hn)) ?_)
     obtain⟨d1,d2⟩:=jN hdst
     have hb':∀dd:Option Nat,Base C nt w0 ρe st.H st.nm ρ (a.put dd (.bool (ad.isNone != ng))) W:=fun dd=>h.base.same (Gr.refl W)
     cases dst with
     | none=>exact⟨hb' none,h.rgs,h.out,h.ins,h.cl⟩
     | some d=>
      obtain⟨hd1,hfr⟩:=d2 d rfl
      have hdl:d<a.tmps.size:=by rw[h.base.sz];exact hd1
      exact h.put (.refl _) hfr (fun p hp=>by cases hp) ⟨fun _=>⟨_,rfl,fG hdl⟩,fun hn=>absurd (holds_nil _) hn⟩ (hb' (some d))
    ·cases hs
   ·cases hs
  ·cases hs
 ·cases hs
theorem evOp_ok{ops:Array Oper}  (hI:gu C I){k:Nat}{o:Oper}{st:St}{M:St→Prop}(h:RI C nt w0 ρe st ρ a W)(he:evOp Γ nt I inls ops.toList k o st M)
  {K:Act→World→Prop} (hK:∀st' ρ' a' W',M st'→RI C nt w0 ρe st' ρ' a' W'→K a' W') :
  if Region.wanted o (yielded ops a.tmps)=true then dC C.P C.co o a W K else K (a.put o.dst undef) W:=by
 obtain⟨sl,H,nm,rg,rd,ws⟩:=st
 simp only[evOp] at he
 split at he
 ·rename_i hs
  simp only[ib,fg] at he
  exact inl_step (M:=M) hI h hs he hK
 ·rename_i hs
  split at he
  ·rename_i n neg hs
   simp only[ib] at he
   exact nil_step (k:=k) (M:=M) h hs he hK
  ·split at he
   ·cases he
   ·rename_i st' ob hs
    obtain⟨h1,h2⟩:=also_ok he
    exact step_seq h hs h1 fun ρ' a' W' h'=>hK _ _ _ _ h2 h'
theorem gdLit_ok{st:St}{t:Nat}{b:Bool}(h:RI C nt w0 ρe st ρ a W)(e:gdLit st.rg st.sl t=some b):a.tmps[t]? = some (.bool b)∧∃s,look st.sl t=some s∧s.rg=st.rg:=by
 unfold gdLit at e
 split at e
 ·cases e
 ·rename_i srg sk sg v hs
  split at e
  ·rename_i b' hb
   obtain rfl:=Oi e
   have hr:=Nb hb
   obtain⟨x,h1,h2⟩:=(h.ins t _ hs hr).1 (holds_nil a)
   obtain rfl:x=.bool b':=h1
   exact⟨h2,_,hs,hr⟩
  ·cases e
def GD.Ok(ops:Array Oper)(a:Act)(st:St)(o:Oper):GD→Prop
 | .plain=>True
 | .go _=>Region.wanted o (yielded ops a.tmps)=true
 | .skip g=>¬Region.wanted o (yielded ops a.tmps)=true∧¬holds a g∧∀p∈g,∃s',look st.sl p.1=some s'∧s'.rg=st.rg
 | .both t _ pol b=>(Region.wanted o (yielded ops a.tmps)=true↔b=pol)∧a.tmps[t]? = some (.bool b)∧∃s,look st.sl t=some s∧s.rg=st.rg∧s.g=[]
theorem gdOf_ok{ops:Array Oper}{st:St}{o:Oper}(h:RI C nt w0 ρe st ρ a W):(gdOf ops.toList st.rg st.sl o).Ok ops a st o:=by
 unfold gdOf
 split
 ·trivial
 rename_i j pol hg
 split
 ·trivial
 rename_i oj hj
 split
 ·trivial
 rename_i t ht
 split
 ·trivial
 rename_i srg sk sg v hs
 split
 rotate_left
 ·trivial
 rename_i hr hk
 have hr:=Nb hr
 have hw:=dY (a:=a) hg hj ht
 split
 ·obtain⟨x,h1,h2⟩:=(h.ins t _ hs hr).1 (holds_nil a)
  split
  ·rename_i b
   obtain rfl:x=.bool b:=h1
   split
   ·rename_i hb
    exact hw.2 (by rw[h2,eq_of_beq hb])
   ·rename_i hb
    have hne:¬a.tmps[t]? = some (.bool pol):=fun e=>by
     rw[h2] at e
     injection e with e
     injection e with e
     rw[e] at hb
     simp at hb
    refine⟨fun c=>hne (hw.1 c),fun c=>hne (c (t,pol) List.mem_cons_self),fun p hp=>?_⟩
    obtain rfl:p=(t,pol):=by simpa using hp
    exact⟨_,hs,hr⟩
  ·rename_i b
   obtain rfl:x=.bool b:=h1
   refine⟨⟨fun c=>?_,fun c=>hw.2 (by rw[h2,c])⟩,h2,_,hs,hr,rfl⟩
   have:=hw.1 c
   rw[h2] at this
   injection this with e
   injection e with e
  ·trivial
 ·rename_i t' pol' g'
  split
  ·rename_i b hb
   split
   ·trivial
   ·rename_i hne
    obtain⟨k1,s',k2,k3⟩:=gdLit_ok h hb
    have hn:∀g:List (Nat×Bool),(t',pol')∈g→¬holds a g:=fun g hg c=>by
     have:=c _ hg
     rw[k1] at this
     injection this with e
     injection e with e
     rw[e] at hne
     simp at hne
    have hu:=(h.ins t _ hs hr).2 (hn _ List.mem_cons_self)
    refine⟨fun c=>?_,hn _ List.mem_cons_self,fun p hp=>?_⟩
    ·have:=hw.1 c
     rw[hu] at this
     simp[undef] at this
    ·obtain rfl:p=(t',pol'):=by simpa using hp
     exact⟨s',k2,k3⟩
  ·trivial
theorem bare_wp{P:Program}{co:Bool}{o:Oper}{K:Act→World→Prop} : dC P co (bare o) a W K=dC P co o a W K:=by
 obtain⟨dst,op,ty,pos,after,guard⟩:=o
 rfl
theorem evSkip_ok{k:Nat}{g:List (Nat×Bool)}{o:Oper}{st:St}{M:St→Prop}(h:RI C nt w0 ρe st ρ a W)(he:evSkip nt k g o st M)(hn:¬holds a g)(hcl:∀p∈g,∃s',look st.sl p.1=some s'∧s'.rg=st.rg)
  {K:Act→World→Prop} (hK:∀st' ρ' a' W',M st'→RI C nt w0 ρe st' ρ' a' W'→K a' W'):K (a.put o.dst undef) W:=by
 obtain⟨sl,H,nm,rg,rd,ws⟩:=st
 simp only[evSkip] at he
 split at he
 ·rename_i hd
  simp only[ib] at he
  refine hK _ ρ _ W he ?_
  obtain⟨d1,d2⟩:=jN hd
  have hb':∀dd:Option Nat,Base C nt w0 ρe H nm ρ (a.put dd undef) W:=fun dd=>h.base.same (Gr.refl W)
  cases ho:o.dst with
  | none=>exact⟨hb' none,h.rgs,h.out,h.ins,h.cl⟩
  | some d=>
   obtain⟨hd1,hfr⟩:=d2 d ho
   have hdl:d<a.tmps.size:=by rw[h.base.sz];exact hd1
   refine h.put (.refl _) hfr hcl ⟨fun hh=>absurd ?_ hn,fun _=>fG hdl⟩ (hb' (some d))
   intro p hp
   obtain⟨s',k1,k2⟩:=hcl p hp
   have hne:d≠p.1:=fun e=>ie hfr (by rw[e];exact k1) k2
   rw[←cn hne (x:=undef)]
   exact hh p hp
 ·cases he
theorem RI.lit{sl:List (Nat×Slot)}{H:bd}{nm rg j t:Nat}{rd ws:List (Nat×Nat)}{b:Bool}{s:Slot}(h:RI C nt w0 ρe ⟨sl,H,nm,rg,rd,ws⟩ ρ a W)(hs:look sl t=some s)(hr:s.rg=rg)(hb:a.tmps[t]? = some (.bool b)) :
  RI C nt w0 ρe ⟨(t,⟨rg,j,[],.bl b⟩)::sl,H,nm,rg,rd,ws⟩ ρ a W:=by
 have hin:∀t',(∃s',look sl t'=some s'∧s'.rg=rg)→∃s',look ((t,(⟨rg,j,[],.bl b⟩:Slot))::sl) t'=some s'∧s'.rg=rg:=fun t' ⟨s',k1,k2⟩=>by
  by_cases e:t=t'
  ·subst e
   exact⟨_,af _ _ _,rfl⟩
  ·exact⟨s',by rw[ae _ _ e];exact k1,k2⟩
 refine⟨h.base,fun t' s' hs'=>?_,fun t' s' hs' hr' hg=>?_,fun t' s' hs' hr'=>?_,fun t' s' hs' hr' p hp=>?_⟩
 ·by_cases e:t=t'
  ·subst e
   rw[af] at hs'
   obtain rfl:=Oi hs'
   exact Nat.le_refl _
  ·rw[ae _ _ e] at hs'
   exact h.rgs t' s' hs'
 ·by_cases e:t=t'
  ·subst e
   rw[af] at hs'
   obtain rfl:=Oi hs'
   exact absurd rfl hr'
  ·rw[ae _ _ e] at hs'
   exact h.out t' s' hs' hr' hg
 ·by_cases e:t=t'
  ·subst e
   rw[af] at hs'
   obtain rfl:=Oi hs'
   exact⟨fun _=>⟨_,rfl,hb⟩,fun hn=>absurd (holds_nil _) hn⟩
  ·rw[ae _ _ e] at hs'
   exact h.ins t' s' hs' hr'
 ·refine hin p.1 ?_
  by_cases e:t=t'
  ·subst e
   rw[af] at hs'
   obtain rfl:=Oi hs'
   cases hp
  ·rw[ae _ _ e] at hs'
   exact h.cl t' s' hs' hr' p hp
theorem kG{a:Act}{t:Nat}{pol:Bool}(hb:a.tmps[t]? = some (.bool pol)):∀{g:List (Nat×Bool)},holds a (jS t pol g)↔holds a g
 | []=>Iff.rfl
 | (t',p')::r=>by
  have ih:=kG hb (g:=r)
  simp only[jS]
  split
  ·rename_i h1 h2
   obtain rfl:=Nb h1
   have h2:p'=pol:=by cases p'<;>cases pol<;>first|rfl|cases h2
   subst h2
   rw[ih]
   exact⟨fun h p hp=>by
    rcases List.mem_cons.1 hp with rfl|hp
    ·exact hb
    ·exact h p hp,fun h p hp=>h p (List.mem_cons_of_mem _ hp)⟩
  ·constructor
   ·intro h p hp
    rcases List.mem_cons.1 hp with rfl|hp
    ·exact h _ List.mem_cons_self
    ·exact(ih.1 fun q hq=>h q (List.mem_cons_of_mem _ hq)) p hp
   ·intro h p hp
    rcases List.mem_cons.1 hp with rfl|hp
    ·exact h _ List.mem_cons_self
    ·exact(ih.2 fun q hq=>h q (List.mem_cons_of_mem _ hq)) p hp
theorem nX{t:Nat}{pol:Bool} : ∀{g:List (Nat×Bool)}{p:Nat×Bool},p∈jS t pol g→p∈g
 | [],p,h=>h
 | (t',p')::r,p,h=>by
  simp only[jS] at h
  split at h
  ·exact List.mem_cons_of_mem _ (nX h)
  ·rcases List.mem_cons.1 h with rfl|h
   ·exact List.mem_cons_self
   ·exact List.mem_cons_of_mem _ (nX h)
theorem stripS_ok(rg t:Nat)(pol:Bool)(n:Nat)(s:Slot):∃s',iO rg t pol (n,s)=(n,s')∧s'.rg=s.rg∧s'.v=s.v∧(s'.g=s.g∨s.rg=rg∧s'.g=jS t pol s.g):=by
 obtain⟨srg,k,g,v⟩:=s
 simp only[iO]
 split
 ·exact⟨_,rfl,rfl,rfl,.inl rfl⟩
 ·split
  ·exact⟨_,rfl,rfl,rfl,.inl rfl⟩
  ·rename_i hr
   exact⟨_,rfl,rfl,rfl,.inr ⟨Nb hr,rfl⟩⟩
theorem strip_look(rg t:Nat)(pol:Bool)(n:Nat):∀(l:List (Nat×Slot)),(look l n=none∧look (l.map (iO rg t pol)) n=none)∨∃s s',look l n=some s∧look (l.map (iO rg t pol)) n=some s'∧s'.rg=s.rg∧s'.v=s.v∧(s'.g=s.g∨s.rg=rg∧s'.g=jS t pol s.g)
 | []=>.inl ⟨rfl,rfl⟩
 | (m,s)::r=>by
  obtain⟨s',e,h1,h2,h3⟩:=stripS_ok rg t pol m s
  rw[List.map_cons,e]
  by_cases hm:m=n
  ·subst hm
   exact .inr ⟨s,s',af _ _ _,af _ _ _,h1,h2,h3⟩
  ·rw[ae _ _ hm,ae _ _ hm]
   exact strip_look rg t pol n r
theorem lY(rg t:Nat)(pol:Bool)(n:Nat){l l':List (Nat×Slot)}(h:mC rg t pol l=some l'):(look l n=none∧look l' n=none)∨∃s s',look l n=some s∧look l' n=some s'∧s'.rg=s.rg∧s'.v=s.v∧(s'.g=s.g∨s.rg=rg∧s'.g=jS t pol s.g):=by
 rw[ungSf_eq h]
 exact strip_look rg t pol n l
theorem RI.strip{sl sl':List (Nat×Slot)}{H:bd}{nm rg t:Nat}{rd ws:List (Nat×Nat)}{pol:Bool}(h:RI C nt w0 ρe ⟨sl,H,nm,rg,rd,ws⟩ ρ a W)(hb:a.tmps[t]? = some (.bool pol))(hu:mC rg t pol sl=some sl') :
  RI C nt w0 ρe ⟨sl',H,nm,rg,rd,ws⟩ ρ a W:=by
 have key:∀{n:Nat} {s':Slot},look sl' n=some s'→∃s,look sl n=some s∧s'.rg=s.rg∧s'.v=s.v∧(s'.g=s.g∨s.rg=rg∧s'.g=jS t pol s.g):=fun {n s'} hs=>by
  rcases lY rg t pol n hu with ⟨-,h2⟩|⟨s,s'',k1,k2,k3⟩
  ·rw[h2] at hs;cases hs
  ·rw[k2] at hs
   obtain rfl:=Oi hs
   exact⟨s,k1,k3⟩
 refine⟨h.base,fun n s' hs=>?_,fun n s' hs hr hg=>?_,fun n s' hs hr=>?_,fun n s' hs hr p hp=>?_⟩
 ·obtain⟨s,k1,k2,-⟩:=key hs
  rw[k2];exact h.rgs n s k1
 ·obtain⟨s,k1,k2,k3,k4⟩:=key hs
  rw[k3]
  rcases k4 with k4|⟨k4,-⟩
  ·exact h.out n s k1 (by rw[←k2];exact hr) (by rw[←k4];exact hg)
  ·exact absurd (k2.trans k4) hr
 ·obtain⟨s,k1,k2,k3,k4⟩:=key hs
  have hn:=h.ins n s k1 (k2.symm.trans hr)
  rw[k3]
  rcases k4 with k4|⟨-,k4⟩
  ·rw[k4];exact hn
  ·rw[k4]
   exact⟨fun hh=>hn.1 ((kG hb).1 hh),fun hh=>hn.2 fun c=>hh ((kG hb).2 c)⟩
 ·obtain⟨s,k1,k2,-,k4⟩:=key hs
  have hp':p∈s.g:=by
   rcases k4 with k4|⟨-,k4⟩
   ·rw[←k4];exact hp
   ·rw[k4] at hp;exact nX hp
  obtain⟨s0,q1,q2⟩:=h.cl n s k1 (k2.symm.trans hr) p hp'
  rcases lY rg t pol p.1 hu with ⟨h2,-⟩|⟨s1,s2,r1,r2,r3,-⟩
  ·rw[q1] at h2;cases h2
  ·rw[q1] at r1
   obtain rfl:=Oi r1
   exact⟨s2,r2,r3.trans q2⟩
theorem evG_ok{ops:Array Oper}  (hI:gu C I){sp:Bool}{k:Nat}{o:Oper}{st:St}{M:St→Prop}(h:RI C nt w0 ρe st ρ a W)(he:evG Γ nt I inls ops.toList sp k o st M)
  {K:Act→World→Prop} (hK:∀st' ρ' a' W',M st'→RI C nt w0 ρe st' ρ' a' W'→K a' W') :
  if Region.wanted o (yielded ops a.tmps)=true then dC C.P C.co o a W K else K (a.put o.dst undef) W:=by
 obtain⟨sl,H,nm,rg,rd,ws⟩:=st
 have hb:∀st ρ,RI C nt w0 ρe st ρ a W→evOp Γ nt I inls ops.toList k (bare o) st M→dC C.P C.co o a W K:=fun st ρ h he=>by
  have:=evOp_ok hI h he hK
  rw[if_pos (fb rfl),bare_wp] at this
  exact this
 cases sp with
 | false=>exact evOp_ok hI h he hK
 | true=>
  simp only[evG] at he
  have hd:=gdOf_ok (ops:=ops) (o:=o) h
  have hd:(gdOf ops.toList rg sl o).Ok ops a ⟨sl,H,nm,rg,rd,ws⟩ o:=hd
  split at he
  ·exact evOp_ok hI h he hK
  ·rename_i heq
   rw[heq] at hd
   replace hd:Region.wanted o (yielded ops a.tmps)=true:=hd
   rw[if_pos hd]
   exact hb _ _ h he
  ·rename_i g heq
   rw[heq] at hd
   rw[if_neg hd.1]
   exact evSkip_ok h he hd.2.1 hd.2.2 hK
  ·rename_i t j pol b heq
   rw[heq] at hd
   obtain⟨d1,d2,s,d3,d4,d5⟩:=hd
   simp only[ib] at he
   by_cases e:b=pol
   ·rw[if_pos (d1.2 e)]
    have he:=he.1 e
    split at he
    ·rename_i sl'' hu
     have hu:mC rg t pol ((t,⟨rg,j,[],.bl pol⟩)::sl)=some sl'':=hu
     have d2':a.tmps[t]? = some (.bool pol):=by rw[←e];exact d2
     exact hb _ _ ((h.lit (j:=j) d3 d4 (b:=pol) d2').strip d2' hu) he
    ·exact he.elim
   ·have e2:b = !pol:=by cases b<;>cases pol<;>first|rfl|exact absurd rfl e
    rw[if_neg fun c=>e (d1.1 c)]
    have he:=he.2 e2
    split at he
    rotate_left
    ·exact he.elim
    rename_i sl'' hu
    have hu:mC rg t (!pol) ((t,⟨rg,j,[],.bl (!pol)⟩)::sl)=some sl'':=hu
    have d2':a.tmps[t]? = some (.bool (!pol)):=by rw[←e2];exact d2
    refine evSkip_ok ((h.lit d3 d4 (b:=!pol) (j:=j) d2').strip d2' hu) he (fun c=>?_) (fun p hp=>?_) hK
    ·have:=c (t,pol) List.mem_cons_self
     rw[d2,e2] at this
     cases pol<;>cases this
    ·obtain rfl:p=(t,pol):=by simpa using hp
     rcases lY rg t (!pol) t hu with ⟨h2,-⟩|⟨s1,s2,r1,r2,r3,-⟩
     ·rw[af] at h2;cases h2
     ·rw[af] at r1
      obtain rfl:=Oi r1
      exact⟨s2,r2,r3⟩
theorem RI.later{st:St}{W1:World}(h:RI C nt w0 ρe st ρ a W)(r:Rv W W1):RI C nt w0 ρe st ρ a W1:=
 ⟨h.base.same (dst:=none) (x:=undef) ⟨r.os,r.tape,r.output,r.size,fun b hb=>r.same hb⟩,h.rgs,h.out,h.ins,h.cl⟩
theorem inl_ns{ops:Array Oper}{st:St}{o:Oper}{f k:Nat}{al:List SV}{K:SV→bd→Nat→Prop}(hI:gu C I)(h:RI C nt w0 ρe st ρ a W)(hs:inlOf inls nt ops.toList st o=some (f,al))(he:I f al st.H st.nm K):NS C.P (execOp a.eval o):=by
 obtain⟨dst,oo,ty,pos,after,guard⟩:=o
 unfold inlOf at hs
 split at hs
 ·rename_i c hoo
  obtain rfl:oo=.call c:=hoo
  split at hs
  ·rename_i x hcal
   split at hs
   ·rename_i sf hg hsf hdst
    split at hs
    ·rename_i g first captured args hcl hargs
     split at hs
     ·split at hs
      ·rename_i al' hal
       obtain⟨rfl,rfl⟩:=Prod.mk.inj (Oi hs)
       have hop:=kO (heads:=ops.toList) (k:=0) (o:=⟨dst,.call c,ty,pos,after,guard⟩) h (holds_nil a)
       obtain⟨fv,cv,hev,-⟩:=ln hop hsf hcl hargs
       exact mL hcal hev (hI _ _ _ _ _ he).2.1
      ·cases hs
     ·cases hs
    ·cases hs
   ·cases hs
  ·cases hs
 ·cases hs
theorem nil_ns{ops:Array Oper}{st:St}{o:Oper}{n:Nat}{neg:Bool}(h:RI C nt w0 ρe st ρ a W)(hs:nilOf C nt ops.toList st o=some (n,neg)):NS C.P (execOp a.eval o):=by
 obtain⟨dst,oo,ty,pos,after,guard⟩:=o
 unfold nilOf at hs
 split at hs
 ·rename_i b t x y yt hoo
  obtain rfl:oo=.binOp b t x y yt:=hoo
  split at hs
  ·rename_i ng el hng hel hg hdst
   split at hs
   ·rename_i u v hu hv
    split at hs
    ·rename_i hv1 hv2
     have hop:=kO (heads:=ops.toList) (k:=0) (o:=⟨dst,.binOp b t x y yt,ty,pos,after,guard⟩) h (holds_nil a)
     obtain⟨ad,l,c,e1,-⟩:=nilLen_ok hv2 (hop.get hu)
     have e2:=isNilS_ok hv1 (hop.get hv)
     have key:NS C.P (binOp b t (a.eval x) (a.eval y))→NS C.P (execOp a.eval ⟨dst,.binOp b t x y yt,ty,pos,after,guard⟩):=fun k=>ab (ab (mg _ _ _ _ _ _) fun _=>k) fun _=>trivial
     refine key ?_
     rw[e1,e2]
     cases b<;>first|exact ab (ns_slice_nil _ _ _ _ _) fun _=>trivial|cases hng
    ·cases hs
   ·cases hs
  ·cases hs
 ·cases hs
theorem evOp_ns{ops:Array Oper}(hI:gu C I){k:Nat}{o:Oper}{st:St}{M:St→Prop}(h:RI C nt w0 ρe st ρ a W)(he:evOp Γ nt I inls ops.toList k o st M)(hw:Region.wanted o (yielded ops a.tmps)=true):NS C.P (execOp a.eval o):=by
 obtain⟨sl,H,nm,rg,rd,ws⟩:=st
 simp only[evOp] at he
 split at he
 ·rename_i hs
  simp only[ib,fg] at he
  exact inl_ns (k:=k) hI h hs he
 ·split at he
  ·rename_i n neg hs
   exact nil_ns h hs
  ·split at he
   ·cases he
   ·rename_i st' ob hs
    exact step_ns h hs hw
theorem evG_ns{ops:Array Oper}(hI:gu C I){sp:Bool}{k:Nat}{o:Oper}{st:St}{M:St→Prop}(h:RI C nt w0 ρe st ρ a W)(he:evG Γ nt I inls ops.toList sp k o st M)(hw:Region.wanted o (yielded ops a.tmps)=true):NS C.P (execOp a.eval o):=by
 obtain⟨sl,H,nm,rg,rd,ws⟩:=st
 cases sp with
 | false=>exact evOp_ns hI h he hw
 | true=>
  simp only[evG] at he
  have hd:=gdOf_ok (ops:=ops) (o:=o) h
  have hd:(gdOf ops.toList rg sl o).Ok ops a ⟨sl,H,nm,rg,rd,ws⟩ o:=hd
  split at he
  ·exact evOp_ns hI h he hw
  ·exact evOp_ns (o:=bare o) hI h he (fb rfl)
  ·rename_i g heq
   rw[heq] at hd
   exact absurd hw hd.1
  ·rename_i t j pol b heq
   rw[heq] at hd
   obtain⟨d1,d2,s,d3,d4,d5⟩:=hd
   simp only[ib] at he
   have e:=d1.1 hw
   have he:=he.1 e
   split at he
   ·rename_i sl'' hu
    have hu:mC rg t pol ((t,⟨rg,j,[],.bl pol⟩)::sl)=some sl'':=hu
    have d2':a.tmps[t]? = some (.bool pol):=by rw[←e];exact d2
    exact evOp_ns (o:=bare o) hI ((h.lit (j:=j) d3 d4 (b:=pol) d2').strip d2' hu) he (fb rfl)
   ·exact he.elim
theorem evG_op{ops:Array Oper}(hI:gu C I){sp:Bool}{k:Nat}{o:Oper}{st:St}{M:St→Prop}(h:RI C nt w0 ρe st ρ a W)(he:evG Γ nt I inls ops.toList sp k o st M)
  {K:Act→World→Prop} (hK:∀st' ρ' a' W',M st'→RI C nt w0 ρe st' ρ' a' W'→K a' W') :
  if Region.wanted o (yielded ops a.tmps)=true then OpJ C.P C.co o a W K else K (a.put o.dst undef) W:=by
 have h0:=evG_ok hI h he hK
 split
 ·rename_i hw
  refine⟨evG_ns hI h he hw,fun W1 r=>?_⟩
  have h1:=evG_ok hI (h.later r) he hK
  rw[if_pos hw] at h1
  exact h1
 ·rename_i hw
  rw[if_neg hw] at h0
  exact h0
theorem evSeq_ok{ops:Array Oper}{sp:Bool}{Q:Exit→Act→World→Prop}(hI:gu C I){K:St→Prop}(hQ:∀st ρ a W,K st→RI C nt w0 ρe st ρ a W→Q .normal a W) :
  ∀(r:List Oper) (k:Nat) (st:St) (ρ:Names) (a:Act) (W:World),RI C nt w0 ρe st ρ a W→evSeq Γ nt I inls ops.toList sp k r st K→eU C.P C.co ops Q r a W
 | [],k,st,ρ,a,W,h,he=>hQ st ρ a W he h
 | o::r,k,st,ρ,a,W,h,he=>by
  simp only[evSeq,mU] at he
  refine wpListJ_step fun K' hK'=>?_
  exact evG_op hI h he fun st' ρ' a' W' hM h'=>hK' _ _ (evSeq_ok hI hQ r (k+1) st' ρ' a' W' h' hM)
def noDefer(_:Oper):Bool:=true
theorem evRegion_ok{ops:Array Oper}{full:Nat}{sp draw:Bool}{id:Nat}{Q:Exit→Act→World→Prop}{st:St}{K:St→Prop}(hI:gu C I)(hm:C.P.follows .mixedOrders=true)(hB0:regionB full ops draw=true)(h:Rp C nt w0 ρe st ρ a W)(he:m5 Γ nt I inls full sp ops draw st K)
  (hQ:∀st ρ a W,K st→Rp C nt w0 ρe st ρ a W→Q .normal a W):wpJ C.P C.co (.region id ops draw) Q a W:=by
 obtain⟨sl,H,nm,rg,rd,ws⟩:=st
 have hi:=h.enter
 have hQ':∀st ρ a W,K st→RI C nt w0 ρe st ρ a W→Q .normal a W:=fun st ρ a W hk hr=>hQ st ρ a W hk hr.leave
 cases draw with
 | false=>
  simp only[m5,mU] at he
  exact oU (evSeq_ok hI hQ' _ _ _ _ _ _ hi he)
 | true=>
  unfold m5 at he
  simp only[mU] at he
  have hB:mV ops (fJ full ops.toList)=true:=hB0
  clear hB0
  rw[takeO_eq] at he
  have hle:fJ full ops.toList≤ops.toList.length:=by
   generalize ops.toList=l
   induction l with
   | nil=>simp[fJ]
   | cons o r ih=>simp only[fJ];split<;>simp<;>omega
  generalize fJ full ops.toList=n at he hB hle
  have hlen:(ops.toList.take n).length=n:=by rw[List.length_take];omega
  obtain⟨hrun,hK⟩:=evOps_at _ (l:=ops.toList.take n) (st0:=⟨sl,H,nm,rg+1,[],[]⟩) (ops.toList.take n) 0 (fun j=>by simp) (by simp) he
  have F:cC Γ nt ops.toList (ops.toList.take n) ⟨sl,H,nm,rg+1,[],[]⟩ (stAt (jr Γ nt true ops.toList (ops.toList.take n)) (ops.toList.take n) ⟨sl,H,nm,rg+1,[],[]⟩):=
   ⟨rfl,fun i o ho=>hrun i o (Nat.zero_le _) ho,fun t s hs=>by
    have:s.rg≤rg:=h.rgs t s hs
    show s.rg≠rg+1
    omega,fun i o ho=>by
    have hl:i<n:=by have:=(List.getElem?_eq_some_iff.1 ho).1;omega
    rwa [List.getElem?_take_of_lt hl] at ho⟩
  refine jW hm fun W1 r1=>?_
  have hid:=hi.later r1
  refine region_inv (n:=n) hB (fun listed a' W'=>∃ρ',HI C nt w0 ρe (ops.toList.take n) ⟨sl,H,nm,rg+1,[],[]⟩ (stAt (jr Γ nt true ops.toList (ops.toList.take n)) (ops.toList.take n) ⟨sl,H,nm,rg+1,[],[]⟩) ρ a listed ρ' a' W')
   ⟨ρ,head_start F hid (fun i=>getD_replicate_false _ i)⟩ ?_ ?_
  ·intro listed a' W' i o inv hI' hin ho hu hdep K' hK'
   have hho:(ops.toList.take n)[i]? = some o:=by rw[List.getElem?_take_of_lt hin];simpa using ho
   exact head_op F hlen hid listed a' W' i o inv hI' hin ho hho hu hdep K' hK'
  ·intro listed a' W' ⟨ρ',hI'⟩ hall
   exact evSeq_ok hI hQ' _ _ _ ρ' a' W' (head_done F hid hI' (by rw[hlen];exact hall)) hK
end
end Go.Proofs.YtgigkennhdolpaaGreatDoor
