/- A symbolic executor with lists. -/
import Derived.Test.YtmdpdknpapjchaaGreatDoorM18
import Derived.Test.YtmdpdknpapjchaaGreatDoorM19
import Derived.RangeFuncCalls
import Derived.RangeFuncFrom
import Derived.OrdersIn
set_option linter.all false
namespace Go.Proofs.YtmdpdknpapjchaaGreatDoor
open Go.RowKit
variable {a:Act}{K:Act->World->Prop}{listed:Array Bool}{ops:Array Oper}{Ye neg sp:Bool}{XN ρ:Names}{f k n nm nt rg t:Nat}{o:Oper}{PP:Program}{st:St}{M:St->Prop}{W1 w0:World}{H:aU}{C:Cx PP}
section
variable {Γ:List (XR C)}{heads:List Oper}{st0:St}{S:Nat->St}{YA:Names}{a0:Act}
theorem wQ(F:cQ Γ nt ops.toList heads st0 S)(h0:RI C nt w0 XN st0 YA a0 W1){W:World}(h:HI C nt w0 XN heads st0 S YA a0 listed ρ a W)(X8:∀i,i<heads.length->listed.getD i false=true):RI C nt w0 XN (S heads.length) ρ a W:=by
 have hrg:=F.rg heads.length (F2 _);have hk:∀t s,look (S heads.length).sl t=some s->s.rg=st0.rg->listed.getD s.k false=true:=λt s hs hr=>X8 s.k (F.ins _ (F2 _) t s hs hr).1;refine⟨⟨h.mem,λn sb hn=>?_,h.sz,h.df⟩,λt s hs=>?_,λt s hs hr hg=>?_,λt s hs hr=>?_,λt s hs hr p hp=>?_⟩
 ·rcases F.heap _ (F2 _) n sb hn with ⟨h1,h2⟩|⟨j,hj,hwj,h3⟩
  exact h.con n sb h1 λi Yu hi hwi=>P' hwi (h2 i Yu hi);exact h.wr j n sb hj (X8 j hj) hwj λj' Yu h1 h2 h4=>P' h4 (h3 j' Yu h1 h2)
 by_cases hr:s.rg=st0.rg;omega;have:=h0.rgs t s (F.out _ (F2 _) t s hs hr);omega;rw[hrg] at hr;have hs0:=F.out _ (F2 _) t s hs hr;obtain⟨y,h1,h2⟩:=h0.out t s hs0 hr hg;refine⟨y,bE h.le _ _ h1,?_⟩;rw[h.out t ?_];exact h2;intro i o hi hd;exfalso;obtain⟨g,r,-,e,-⟩:=F.own hi hd;rw[hs] at e;rw[Oi e] at hr;exact hr rfl;rw[hrg] at hr;exact h.ins t s hs hr (hk t s hs hr);rw[hrg] at hr;obtain⟨s',q1,q2,-⟩:=F.atoms (md:=ops) (n:=heads.length) rfl s.k t s rfl hs hr p hp;exact⟨s',q1,by rw[hrg];exact q2⟩
theorem uq(F:cQ Γ nt ops.toList heads st0 S)(h0:RI C nt w0 XN st0 YA a0 W1)(hl:∀i,listed.getD i false=false):HI C nt w0 XN heads st0 S YA a0 listed YA a0 W1:=by
 have g:Gr W1 W1:=Gr.refl W1;have h1:=F.nm (i:=0) (j:=heads.length) (by omega) (F2 _);rw[F.s0] at h1;exact⟨(h0.base.mem.gr g).up h1,.refl _,λm b hm=>.inl (h0.base.mem.dom m b hm),λm b hm=>.inl (h0.base.mem.domv m b hm).1,λm sb hm _=>(h0.base.X'.gr g).blk m sb hm,
  (λi m sb _ h=>by rw[hl] at h;cases h),(λt s _ _ h=>by rw[hl] at h;cases h),λt _=>rfl,h0.base.sz,h0.base.df⟩
end
def rP(n:Nat):List Nat->Bool
 | []=>false
 | m::r=>match Nat.beq m n with|true=>true|false=>rP n r
abbrev Inl:=Nat->List SV->aU->Nat->(SV->aU->Nat->Prop)->Prop
def eT(C:Cx PP)(I:Inl):Prop:=
 ∀f args H nm K,I f args H nm K->(∀(a:Array Value) (w:World),(callFunc f a).run C.P w=.ok (.enter f a) w)∧(∀a:Array Value,NS C.P (callFunc f a))∧∀(ρ:Names) (W:World) (vs:List Value),YH C H ρ W->(∀n b,ρ.n n=some b->n<nm)->(∀e l,ρ.v e=some l->e<nm∧l.o<nm)->(∀m i l,ρ.k m i=some l->m<nm)->au ρ args vs->
  bj C.P C.co f vs.toArray W λe W'=>∃v val H' Yl XM,e=.returned val∧K v H' Yl∧Mem C W ρ.YE Yl XM W'∧(∀n sb,look H' n=some sb->cS XM W' n sb)∧den XM v val
def Au(inls:List Nat)(nt:Nat)(ops:List Oper)(st:St)(o:Oper):Option (Nat×List SV):=
 match o.op with
 | .call c=>match c.callee with
  | .value x=>match guardOf false ops st.rg st.sl o,nE false ops 0 st.rg st.sl o [] [] x,Bf nt st.rg st.sl o with
   | some [],some sf,true=>match callee sf,opL (nE false ops 0 st.rg st.sl o []) c.args.toList with
    | some (g,first,captured),some args=>match rP g inls with
     | true=>match laid (first++args++captured) with|some al=>some (g,al)|none=>none
     | false=>none
    | _,_=>none
   | _,_,_=>none
  | _=>none
 | _=>none
def CO:SV->Option Nat
 | .kd _ _ _ _ n=>some n
 | .e=>some 0
 | .rs _ n _=>some n
 | .g _ _ _ _ n=>some n
 | _=>none
def Rb:BinOp->Option Bool
 | .eql=>some false
 | .neq=>some true
 | _=>none
def C1:SV->Bool
 | .v (.slice none 0 0)=>true
 | _=>false
def z5(C:Cx PP)(nt:Nat)(ops:List Oper)(st:St)(o:Oper):Option (Nat×Bool):=
 match o.op with
 | .binOp b t x y _=>match Rb b,fe C t,guardOf false ops st.rg st.sl o,Bf nt st.rg st.sl o with
  | some neg,some _,some [],true=>match nE false ops 0 st.rg st.sl o [] [] x,nE false ops 0 st.rg st.sl o [] [] y with
   | some u,some v=>match C1 v,CO u with|true,some n=>some (n,neg)|_,_=>none
   | _,_=>none
  | _,_,_,_=>none
 | _=>none
def yC(Γ:List (XR C))(nt:Nat)(I:Inl)(inls:List Nat)(ops:List Oper)(k:Nat)(o:Oper):St->(St->Prop)->Prop
 | ⟨sl,H,nm,rg,rd,ws⟩,M=>match Au inls nt ops ⟨sl,H,nm,rg,rd,ws⟩ o with
  | some (f,al)=>match lK al with|.mk al'=>(I f al' H nm λv H nm=>match ri rg k [] v o.dst sl with|.mk Z2=>M ⟨Z2,H,nm,rg,rd,ws⟩|.no=>False)|.no=>False
  | none=>match z5 C nt ops ⟨sl,H,nm,rg,rd,ws⟩ o with
   | some (n,neg)=>∀b:Bool,(b=true->n=0)->match ri rg k [] (.v (.bool (b != neg))) o.dst sl with|.mk Z2=>M ⟨Z2,H,nm,rg,rd,ws⟩|.no=>False
   | none=>match iF Γ nt false ops ops k o ⟨sl,H,nm,rg,rd,ws⟩ with
    | none=>False
    | some (X4,ob)=>T4 ob (M X4)
inductive GD where
 | plain
 | go (t:Nat)
 | skip (g:List (Nat×Bool))
 | both (t j:Nat) (Ye b:Bool)
def Lc(rg:Nat)(sl:List (Nat×Slot))(t:Nat):Option Bool:=
 match look sl t with
 | none=>none
 | some ⟨srg,_,sg,v⟩=>match Nat.beq srg rg,sg,v with
  | true,[],.bl b=>some b
  | _,_,_=>none
def La(ops:List Oper)(rg:Nat)(sl:List (Nat×Slot))(o:Oper):GD:=
 match o.guard with
 | none=>.plain
 | some (j,Ye)=>match ops[j]? with
  | none=>.plain
  | some oj=>match oj.dst with
   | none=>.plain
   | some t=>match look sl t with
    | none=>.plain
    | some ⟨srg,sk,sg,v⟩=>match Nat.beq srg rg,Nat.beq sk j with
     | true,true=>match sg with
      | []=>match v with
       | .bl b=>match b==Ye with|true=>.go t|false=>.skip [(t,Ye)]
       | .v (.bool b)=>.both t j Ye b
       | _=>.plain
      | (t',pol')::_=>match Lc rg sl t' with
       | some b=>match b==pol' with|true=>.plain|false=>.skip [(t',pol')]
       | none=>.plain
     | _,_=>.plain
def bare(o:Oper):Oper:=⟨o.dst,o.op,o.type,o.pos,o.after,none⟩
def yz(nt:Nat)(k:Nat)(g:List (Nat×Bool))(o:Oper):St->(St->Prop)->Prop
 | ⟨sl,H,nm,rg,rd,ws⟩,M=>match Bf nt rg sl o with
  | true=>match ri rg k g (.bl false) o.dst sl with|.mk Z2=>M ⟨Z2,H,nm,rg,rd,ws⟩|.no=>False
  | false=>False
def lW(t:Nat)(Ye:Bool):List (Nat×Bool)->List (Nat×Bool)
 | []=>[]
 | (t',p')::r=>match Nat.beq t' t,Jo p' Ye with|true,true=>lW t Ye r|_,_=>(t',p')::lW t Ye r
def j0(rg t:Nat)(Ye:Bool):Nat×Slot->Nat×Slot
 | (n,⟨srg,k,g,v⟩)=>match g with
  | []=>(n,⟨srg,k,[],v⟩)
  | x::g'=>match Nat.beq srg rg with
   | false=>(n,⟨srg,k,x::g',v⟩)
   | true=>(n,⟨srg,k,lW t Ye (x::g'),v⟩)
def Ci(rg t:Nat)(Ye:Bool):List (Nat×Slot)->List (Nat×Slot)->Option (List (Nat×Slot))
 | [],acc=>some acc
 | (n,⟨srg,k,g,v⟩)::r,acc=>match g with
  | []=>Ci rg t Ye r ((n,⟨srg,k,[],v⟩)::acc)
  | x::g'=>match Nat.beq srg rg with
   | false=>Ci rg t Ye r ((n,⟨srg,k,x::g',v⟩)::acc)
   | true=>match laid (lW t Ye (x::g')) with
    | some g''=>Ci rg t Ye r ((n,⟨srg,k,g'',v⟩)::acc)
    | none=>none
def R9{α:Type} : List α->List α->Option (List α)
 | [],acc=>some acc
 | x::r,acc=>R9 r (x::acc)
def oT(rg t:Nat)(Ye:Bool)(l:List (Nat×Slot)):Option (List (Nat×Slot)):=match Ci rg t Ye l [] with|some l'=>R9 l' []|none=>none
theorem Ei{rg t:Nat}{Ye:Bool} : ∀{l acc o:List (Nat×Slot)},Ci rg t Ye l acc=some o->o=(l.map (j0 rg t Ye)).reverse++acc
 | [],acc,o,h=>by obtain rfl:=Oi h;rfl
 | (n,⟨srg,k,g,v⟩)::r,acc,o,h=>by simp only[Ci] at h;have key:∀x,Ci rg t Ye r (x::acc)=some o->x=j0 rg t Ye (n,⟨srg,k,g,v⟩)->o=(((n,⟨srg,k,g,v⟩)::r).map (j0 rg t Ye)).reverse++acc:=λx hx e=>(by rw[Ei hx,e];simp);split at h;exact key _ h rfl;split at h;rename_i hr;exact key _ h (by simp only[j0,hr]);rename_i hr;split at h;rename_i g'' hl;refine key _ h ?_;rw[dG hl];simp only[j0,hr];cases h
theorem Es{α:Type} : ∀{l acc o:List α},R9 l acc=some o->o=l.reverse++acc
 | [],acc,o,h=>by obtain rfl:=Oi h;rfl
 | x::r,acc,o,h=>by rw[Es (l:=r) h];simp
theorem I9{l o:List (Nat×Slot)}(h:oT rg t Ye l=some o):o=l.map (j0 rg t Ye):=by unfold oT at h;split at h;rename_i l' hl;rw[Es h,Ei hl];simp;cases h
def evG(Γ:List (XR C))(nt:Nat)(I:Inl)(inls:List Nat)(ops:List Oper)(sp:Bool)(k:Nat)(o:Oper):St->(St->Prop)->Prop
 | ⟨sl,H,nm,rg,rd,ws⟩,M=>match sp with
  | false=>yC Γ nt I inls ops k o ⟨sl,H,nm,rg,rd,ws⟩ M
  | true=>match La ops rg sl o with
   | .plain=>yC Γ nt I inls ops k o ⟨sl,H,nm,rg,rd,ws⟩ M
   | .go _=>yC Γ nt I inls ops k (bare o) ⟨sl,H,nm,rg,rd,ws⟩ M
   | .skip g=>yz nt k g o ⟨sl,H,nm,rg,rd,ws⟩ M
   | .both t j Ye b=>
    (b=Ye->match ri rg j [] (.bl Ye) (some t) sl with|.mk Z2=>(match oT rg t Ye Z2 with|some sl''=>yC Γ nt I inls ops k (bare o) ⟨sl'',H,nm,rg,rd,ws⟩ M|none=>False)|.no=>False) ∧
    (b = !Ye->match ri rg j [] (.bl (!Ye)) (some t) sl with|.mk Z2=>(match oT rg t (!Ye) Z2 with|some sl''=>yz nt k [(t,Ye)] o ⟨sl'',H,nm,rg,rd,ws⟩ M|none=>False)|.no=>False)
def uM{PP:Program}{C:Cx PP}(Γ:List (XR C))(nt:Nat)(I:Inl)(inls:List Nat)(ops:List Oper)(sp:Bool):Nat->List Oper->St->(St->Prop)->Prop
 | _,[],st,K=>K st
 | k,o::r,st,K=>match Av k with
  | .mk k'=>evG Γ nt I inls ops sp k o st λX4=>uM Γ nt I inls ops sp k' r X4 K
  | .no=>False
def Rq(fl:List Nat)(id:Nat):Nat:=match rP id fl with|true=>1|false=>match rP (2000+id) fl with|true=>2|false=>0
def O3(full:Nat):Op->Bool
 | .store ..=>match full with|1=>true|_=>false
 | .mapUpdate ..=>false
 | .call c=>match full with|2=>(match c.callee with|.value _=>false|_=>true)|_=>true
 | _=>true
def gK(full:Nat):List Oper->Nat
 | []=>0
 | o::r=>match O3 full o.op with|true=>gK full r+1|false=>0
def mh:Nat->List Oper->List Oper
 | 0,_=>[]
 | _,[]=>[]
 | n+1,x::r=>x::mh n r
theorem oV:∀(n:Nat) (l:List Oper),mh n l=l.take n
 | 0,l=>by simp[mh]
 | n+1,[]=>by simp[mh]
 | n+1,x::r=>by simp[mh,oV n r]
def pt(Γ:List (XR C))(nt:Nat)(I:Inl)(inls:List Nat)(full:Nat)(sp:Bool)(ops:Array Oper)(draw:Bool):St->(St->Prop)->Prop
 | ⟨sl,H,nm,rg,_,_⟩,K=>match draw with
  | false=>match Av rg with|.mk rg'=>uM Γ nt I inls ops.toList sp 0 ops.toList ⟨sl,H,nm,rg',[],[]⟩ K|.no=>False
  | true=>match Av rg with
   | .no=>False
   | .mk rg'=>AY (iF Γ nt true ops.toList (mh (gK full ops.toList) ops.toList)) 0 (mh (gK full ops.toList) ops.toList) ⟨sl,H,nm,rg',[],[]⟩
     λst=>uM Γ nt I inls ops.toList sp (gK full ops.toList) (ops.toList.drop (gK full ops.toList)) st K
def Et(full:Nat)(ops:Array Oper)(draw:Bool):Bool:=match draw with|true=>kG ops (gK full ops.toList)|false=>true
section
variable {Γ:List (XR C)}{W:World}{I:Inl}{inls:List Nat}
theorem Rp.enter{sl:List (Nat×Slot)}{rd ws:List (Nat×Nat)}(h:Rp C nt w0 XN ⟨sl,H,nm,rg,rd,ws⟩ ρ a W):RI C nt w0 XN ⟨sl,H,nm,rg+1,[],[]⟩ ρ a W:=by
 have XW:∀t s,look sl t=some s->s.rg≠rg+1:=λt s hs e=>by have:s.rg<=rg:=h.rgs t s hs;omega
 exact⟨h.base,λt s hs=>Nat.le_succ_of_le (h.rgs t s hs),λt s hs _ hg=>h.cw t s hs hg,λt s hs hr=>P' hr (XW t s hs),λt s hs hr=>P' hr (XW t s hs)⟩
theorem RI.leave(h:RI C nt w0 XN st ρ a W):Rp C nt w0 XN st ρ a W:=
 ⟨h.base,h.rgs,λt s hs hg=>by
  by_cases hr:s.rg=st.rg;exact(h.ins t s hs hr).1 (by rw[hg];exact holds_nil a)
  ·exact h.out t s hs hr hg⟩
theorem KT{al:List SV}(hI:eT C I)(h:RI C nt w0 XN st ρ a W)(hs:Au inls nt ops.toList st o=some (f,al))(he:I f al st.H st.nm λv H nm=>M ⟨GV st.rg k [] v o.dst st.sl,H,nm,st.rg,st.rd,st.ws⟩)(hK:∀X4 XM a' W',M X4->RI C nt w0 XN X4 XM a' W'->K a' W') :
  if Region.wanted o (yielded ops a.tmps)=true then c8 C.P C.co o a W K else K (a.put o.dst undef) W:=by
 obtain⟨dst,oo,ty,pos,after,guard⟩:=o;unfold Au at hs;split at hs
 ·rename_i c hoo;obtain rfl:oo=.call c:=hoo;split at hs
  ·rename_i x ZG;split at hs
   ·rename_i sf hg hsf hdst;split at hs
    ·rename_i g first captured args hcl XY
     split at hs
     ·split at hs
      ·rename_i al' hal;obtain⟨rfl,rfl⟩:=F7 (Oi hs);obtain rfl:=dG hal;obtain⟨c1,-,-⟩:=lG h hg;rw[Xl (c1.2 (holds_nil a))];obtain⟨en,-,hc⟩:=hI _ _ _ _ _ he;have XZ:=mZ (heads:=ops.toList) (k:=0) (o:=⟨dst,.call c,ty,pos,after,guard⟩) h (holds_nil a);obtain⟨fv,cv,Z1,X8⟩:=ny XZ hsf hcl XY;have hcall:=hc ρ W _ h.base.X' h.base.mem.dom h.base.mem.domv h.base.mem.domk X8;unfold c8;rw[pq ZG Z1 en rfl];show bj _ _ _ _ _ _;have e:(fv++c.args.map a.eval++cv).toList.toArray=fv++c.args.map a.eval++cv:=(by simp);rw[e] at hcall;refine hcall.mono ?_;rintro e W' ⟨v,val,H',Yl,XM,rfl,hM,Yq,YN,YR⟩;refine hK _ XM _ W' hM ?_;obtain⟨d1,d2⟩:=lP hdst;have hb:∀dd:Option Nat,Base C nt w0 XN H' Yl XM (a.put dd val) W':=λdd=>⟨h.base.mem.trans Yq,YN,by cases dd<;>simp[Act.put,h.base.sz],by cases dd<;>exact h.base.df⟩
       cases dst with
       | none=>
        refine⟨hb none,h.rgs,λt s hs hr hg'=>?_,λt s hs hr=>?_,h.cl⟩;obtain⟨x,h1,h2⟩:=h.out t s hs hr hg';exact⟨x,bE Yq.le.unD _ _ h1,h2⟩;obtain⟨h1,h2⟩:=h.ins t s hs hr;exact⟨λhh=>let ⟨x,k1,k2⟩:=h1 hh;⟨x,bE Yq.le.unD _ _ k1,k2⟩,h2⟩
       | some d=>
        obtain⟨Zk,Zz⟩:=d2 d rfl;have hdl:d<a.tmps.size:=(by rw[h.base.sz];exact Zk);exact h.put Yq.le.unD Zz (λp hp=>by cases hp) ⟨λ_=>⟨val,YR,fO hdl⟩,λhn=>P' (holds_nil _) hn⟩ (hb (some d))
      cases hs
     cases hs
    cases hs
   cases hs
  cases hs
 cases hs
theorem vE{P:Program}{w:World}{d:Nat}{t e:TypeId}{ad:Option Addr}{l c:Nat}(ht:P.underlying t=some (.slice e)):(Op.equalIn (d+1) t (.slice ad l c) (.slice none 0 0)).run P w=.ok ad.isNone w:=by cases ad<;>simp[Op.equalIn,run_underlying ht]
theorem wC{u:SV}{y:Value}(h:CO u=some n)(hd:den ρ u y):∃a l c,y=.slice a l c∧(a=none->n=0):=by unfold CO at h;split at h;rename_i m i sz off n';obtain rfl:=Oi h;obtain⟨l,h1,h3,h4,a',rfl,h6⟩:=hd;refine⟨a',_,_,rfl,λha=>?_⟩;rcases Nat.eq_zero_or_pos (l.cap-off) with h0|h0;omega;obtain⟨b,-,k2⟩:=h6 (by omega);rw[ha] at k2;cases k2;obtain rfl:=Oi h;obtain⟨a,rfl⟩:=hd;exact⟨a,0,0,rfl,λ_=>rfl⟩;rename_i sz n' f;obtain rfl:=Oi h;obtain⟨a,cap,rfl,h2,h3⟩:=hd;refine⟨a,_,cap,rfl,λha=>?_⟩;rcases Nat.eq_zero_or_pos n' with h0|h0;exact h0;obtain⟨b,o,u,k1,-⟩:=h3 0 h0;rw[ha] at k1;cases k1;rename_i m e sz off n';obtain rfl:=Oi h;obtain⟨l,h1,h2,h3,h4,a',rfl,h6⟩:=hd;refine⟨a',_,_,rfl,λha=>?_⟩;rcases Nat.eq_zero_or_pos (l.cap-off) with h0|h0;omega;obtain⟨b,-,k2⟩:=h6 (by omega);rw[ha] at k2;cases k2;cases h
theorem wK{v:SV}{y:Value}(h:C1 v=true)(hd:den ρ v y):y=.slice none 0 0:=by unfold C1 at h;split at h;exact hd;cases h
theorem Kg(h:RI C nt w0 XN st ρ a W)(hs:z5 C nt ops.toList st o=some (n,neg))(he:∀b:Bool,(b=true->n=0)->M ⟨GV st.rg k [] (.v (.bool (b != neg))) o.dst st.sl,st.H,st.nm,st.rg,st.rd,st.ws⟩)(hK:∀X4 XM a' W',M X4->RI C nt w0 XN X4 XM a' W'->K a' W') :
  if Region.wanted o (yielded ops a.tmps)=true then c8 C.P C.co o a W K else K (a.put o.dst undef) W:=by
 obtain⟨dst,oo,ty,pos,after,guard⟩:=o;unfold z5 at hs;split at hs
 ·rename_i bo t x y yt hoo;obtain rfl:oo=.binOp bo t x y yt:=hoo;split at hs
  ·rename_i ng ei hng Yt hg hdst;split at hs
   ·rename_i u v hu hv;split at hs
    ·rename_i n' hb hnl;obtain⟨rfl,rfl⟩:=F7 (Oi hs);obtain⟨c1,-,-⟩:=lG h hg;rw[Xl (c1.2 (holds_nil a))];have XZ:=mZ (heads:=ops.toList) (k:=0) (o:=⟨dst,.binOp bo t x y yt,ty,pos,after,guard⟩) h (holds_nil a);obtain⟨ad,l,c,e1,h0⟩:=wC hnl (XZ.get hu);have e2:=wK hb (XZ.get hv);obtain⟨inf,z,ht,-⟩:=bV (e:=ei.1) (ei:=ei.2) Yt;have heq:(Op.equal t (.slice ad l c) (.slice none 0 0)).run C.P W=.ok ad.isNone W:=(by show (Op.equalIn (9999+1) t (.slice ad l c) (.slice none 0 0)).run C.P W=_;exact vE ht);have XV:(execOp a.eval ⟨dst,.binOp bo t x y yt,ty,pos,after,guard⟩).run C.P W=.ok (.value (.bool (ad.isNone != ng))) W:=by
      refine iK ?_ ?_;rw[e1,e2];unfold eqGuard;cases bo<;>rfl;rw[e1,e2];cases bo<;>simp only[Rb] at hng<;>first
       | (cases hng;done)
       | (obtain rfl:=Oi hng
          show (do pure (.bool (<-Op.equal t (.slice ad l c) (.slice none 0 0))):Sem Value).run C.P W=_;simp only[Xz,heq,Xx,Xy,Bool.bne_false])
       | (obtain rfl:=Oi hng
          show (do pure (.bool (!(<-Op.equal t (.slice ad l c) (.slice none 0 0)))):Sem Value).run C.P W=_;simp only[Xz,heq,Xx,Xy,Bool.bne_true])
     refine bx XV (hK _ ρ _ W (he ad.isNone λhn=>h0 (by simpa using hn)) ?_);obtain⟨d1,d2⟩:=lP hdst;have Zh:∀dd:Option Nat,Base C nt w0 XN st.H st.nm ρ (a.put dd (.bool (ad.isNone != ng))) W:=λdd=>h.base.same (Gr.refl W);cases dst with
     | none=>exact⟨Zh none,h.rgs,h.out,h.ins,h.cl⟩
     | some d=>
      obtain⟨Zk,Zz⟩:=d2 d rfl;have hdl:d<a.tmps.size:=(by rw[h.base.sz];exact Zk);exact h.put (.refl _) Zz (λp hp=>by cases hp) ⟨λ_=>⟨_,rfl,fO hdl⟩,λhn=>P' (holds_nil _) hn⟩ (Zh (some d))
    cases hs
   cases hs
  cases hs
 cases hs
theorem yB(hI:eT C I)(h:RI C nt w0 XN st ρ a W)(he:yC Γ nt I inls ops.toList k o st M)(hK:∀X4 XM a' W',M X4->RI C nt w0 XN X4 XM a' W'->K a' W') :
  if Region.wanted o (yielded ops a.tmps)=true then c8 C.P C.co o a W K else K (a.put o.dst undef) W:=by
 obtain⟨sl,H,nm,rg,rd,ws⟩:=st;simp only[yC] at he;split at he;rename_i hs;simp only[jw,gh] at he;exact KT (M:=M) hI h hs he hK;rename_i hs;split at he;rename_i n neg hs;simp only[jw] at he;exact Kg (k:=k) (M:=M) h hs he hK;split at he;cases he;rename_i X4 ob hs;obtain⟨h1,h2⟩:=Gh he;exact step_seq h hs h1 λXM a' W' h'=>hK _ _ _ _ h2 h'
theorem Lb{b:Bool}(h:RI C nt w0 XN st ρ a W)(e:Lc st.rg st.sl t=some b):a.tmps[t]? = some (.bool b)∧∃s,look st.sl t=some s∧s.rg=st.rg:=by unfold Lc at e;split at e;cases e;rename_i srg sk sg v hs;split at e;rename_i b' hb;obtain rfl:=Oi e;have hr:=Nb hb;obtain⟨x,h1,h2⟩:=(h.ins t _ hs hr).1 (holds_nil a);obtain rfl:x=.bool b':=h1;exact⟨h2,_,hs,hr⟩;cases e
def GD.Ok(ops:Array Oper)(a:Act)(st:St)(o:Oper):GD->Prop
 | .plain=>True
 | .go _=>Region.wanted o (yielded ops a.tmps)=true
 | .skip g=>¬Region.wanted o (yielded ops a.tmps)=true∧¬holds a g∧∀p∈g,∃s',look st.sl p.1=some s'∧s'.rg=st.rg
 | .both t _ Ye b=>(Region.wanted o (yielded ops a.tmps)=true↔b=Ye)∧a.tmps[t]? = some (.bool b)∧∃s,look st.sl t=some s∧s.rg=st.rg∧s.g=[]
theorem Fe(h:RI C nt w0 XN st ρ a W):(La ops.toList st.rg st.sl o).Ok ops a st o:=by
 unfold La;split;trivial;rename_i j Ye hg;split;trivial;rename_i oj hj;split;trivial;rename_i t ht;split;trivial;rename_i srg sk sg v hs;split
 rotate_left
 trivial;rename_i hr hk;have hr:=Nb hr;have hw:=fh (a:=a) hg hj ht;split;obtain⟨x,h1,h2⟩:=(h.ins t _ hs hr).1 (holds_nil a);split;rename_i b;obtain rfl:x=.bool b:=h1;split;rename_i hb;exact hw.2 (by rw[h2,eq_of_beq hb]);rename_i hb;have XW:¬a.tmps[t]? = some (.bool Ye):=λe=>(by rw[h2] at e;injection e with e;injection e with e;rw[e] at hb;simp at hb);refine⟨λc=>XW (hw.1 c),λc=>XW (c (t,Ye) J'),λp hp=>?_⟩;obtain rfl:p=(t,Ye):=(by simpa using hp);exact⟨_,hs,hr⟩;rename_i b;obtain rfl:x=.bool b:=h1;refine⟨⟨λc=>?_,λc=>hw.2 (by rw[h2,c])⟩,h2,_,hs,hr,rfl⟩;have:=hw.1 c;rw[h2] at this;injection this with e;injection e with e;trivial;rename_i t' pol' g';split;rename_i b hb;split;trivial;rename_i XW;obtain⟨k1,s',k2,k3⟩:=Lb h hb;have hn:∀g:List (Nat×Bool),(t',pol')∈g->¬holds a g:=λg hg c=>(by have:=c _ hg;rw[k1] at this;injection this with e;injection e with e;rw[e] at XW;simp at XW);have hu:=(h.ins t _ hs hr).2 (hn _ J');refine⟨λc=>?_,hn _ J',λp hp=>?_⟩;have:=hw.1 c;rw[hu] at this;simp[undef] at this;obtain rfl:p=(t',pol'):=(by simpa using hp);exact⟨s',k2,k3⟩;trivial
theorem Qw{P:Program}{co:Bool} : c8 P co (bare o) a W K=c8 P co o a W K:=by obtain⟨dst,op,ty,pos,after,guard⟩:=o;rfl
theorem w6{g:List (Nat×Bool)}(h:RI C nt w0 XN st ρ a W)(he:yz nt k g o st M)(hn:¬holds a g)(hcl:∀p∈g,∃s',look st.sl p.1=some s'∧s'.rg=st.rg)(hK:∀X4 XM a' W',M X4->RI C nt w0 XN X4 XM a' W'->K a' W'):K (a.put o.dst undef) W:=by
 obtain⟨sl,H,nm,rg,rd,ws⟩:=st;simp only[yz] at he;split at he
 ·rename_i hd;simp only[jw] at he;refine hK _ ρ _ W he ?_;obtain⟨d1,d2⟩:=lP hd;have Zh:∀dd:Option Nat,Base C nt w0 XN H nm ρ (a.put dd undef) W:=λdd=>h.base.same (Gr.refl W);cases ho:o.dst with
  | none=>exact⟨Zh none,h.rgs,h.out,h.ins,h.cl⟩
  | some d=>
   obtain⟨Zk,Zz⟩:=d2 d ho;have hdl:d<a.tmps.size:=(by rw[h.base.sz];exact Zk);refine h.put (.refl _) Zz hcl ⟨λhh=>P' ?_ hn,λ_=>fO hdl⟩ (Zh (some d));intro p hp;obtain⟨s',k1,k2⟩:=hcl p hp;have XW:d≠p.1:=λe=>jD Zz (by rw[e];exact k1) k2;rw[<-cB XW (x:=undef)];exact hh p hp
 cases he
theorem RI.lit{sl:List (Nat×Slot)}{j:Nat}{rd ws:List (Nat×Nat)}{b:Bool}{s:Slot}(h:RI C nt w0 XN ⟨sl,H,nm,rg,rd,ws⟩ ρ a W)(hs:look sl t=some s)(hr:s.rg=rg)(hb:a.tmps[t]? = some (.bool b)) :
  RI C nt w0 XN ⟨(t,⟨rg,j,[],.bl b⟩)::sl,H,nm,rg,rd,ws⟩ ρ a W:=by
 have hin:∀t',(∃s',look sl t'=some s'∧s'.rg=rg)->∃s',look ((t,(⟨rg,j,[],.bl b⟩:Slot))::sl) t'=some s'∧s'.rg=rg:=λt' ⟨s',k1,k2⟩=>by by_cases e:t=t';subst e;exact⟨_,ai _ _ _,rfl⟩;exact⟨s',by rw[ah _ _ e];exact k1,k2⟩
 refine⟨h.base,λt' s' Zs=>?_,λt' s' Zs YJ hg=>?_,λt' s' Zs YJ=>?_,λt' s' Zs YJ p hp=>?_⟩;by_cases e:t=t';subst e;rw[ai] at Zs;obtain rfl:=Oi Zs;exact F2 _;rw[ah _ _ e] at Zs;exact h.rgs t' s' Zs;by_cases e:t=t';subst e;rw[ai] at Zs;obtain rfl:=Oi Zs;exact P' rfl YJ;rw[ah _ _ e] at Zs;exact h.out t' s' Zs YJ hg;by_cases e:t=t';subst e;rw[ai] at Zs;obtain rfl:=Oi Zs;exact⟨λ_=>⟨_,rfl,hb⟩,λhn=>P' (holds_nil _) hn⟩;rw[ah _ _ e] at Zs;exact h.ins t' s' Zs YJ;refine hin p.1 ?_;by_cases e:t=t';subst e;rw[ai] at Zs;obtain rfl:=Oi Zs;cases hp;rw[ah _ _ e] at Zs;exact h.cl t' s' Zs YJ p hp
theorem mP{a:Act}{t:Nat}{Ye:Bool}(hb:a.tmps[t]? = some (.bool Ye)):∀{g:List (Nat×Bool)},holds a (lW t Ye g)↔holds a g
 | []=>Iff.rfl
 | (t',p')::r=>by
  have ih:=mP hb (g:=r);simp only[lW];split
  ·rename_i h1 h2;obtain rfl:=Nb h1;have h2:p'=Ye:=(by cases p'<;>cases Ye<;>first|rfl|cases h2);subst h2;rw[ih];exact⟨λh p hp=>by
    rcases Xq.1 hp with rfl|hp;exact hb
    ·exact h p hp,λh p hp=>h p (Xm _ hp)⟩
  constructor;intro h p hp;rcases Xq.1 hp with rfl|hp;exact h _ J';exact(ih.1 λq hq=>h q (Xm _ hq)) p hp;intro h p hp;rcases Xq.1 hp with rfl|hp;exact h _ J';exact(ih.2 λq hq=>h q (Xm _ hq)) p hp
theorem qD{t:Nat}{Ye:Bool} : ∀{g:List (Nat×Bool)} {p:Nat×Bool},p∈lW t Ye g->p∈g
 | [],p,h=>h
 | (t',p')::r,p,h=>by simp only[lW] at h;split at h;exact Xm _ (qD h);rcases Xq.1 h with rfl|h;exact J';exact Xm _ (qD h)
theorem GG(rg t:Nat)(Ye:Bool)(n:Nat)(s:Slot):∃s',j0 rg t Ye (n,s)=(n,s')∧s'.rg=s.rg∧s'.v=s.v∧(s'.g=s.g∨s.rg=rg∧s'.g=lW t Ye s.g):=by obtain⟨srg,k,g,v⟩:=s;simp only[j0];split;exact⟨_,rfl,rfl,rfl,.inl rfl⟩;split;exact⟨_,rfl,rfl,rfl,.inl rfl⟩;rename_i hr;exact⟨_,rfl,rfl,rfl,.inr ⟨Nb hr,rfl⟩⟩
theorem td(rg t:Nat)(Ye:Bool)(n:Nat):∀(l:List (Nat×Slot)),(look l n=none∧look (l.map (j0 rg t Ye)) n=none)∨∃s s',look l n=some s∧look (l.map (j0 rg t Ye)) n=some s'∧s'.rg=s.rg∧s'.v=s.v∧(s'.g=s.g∨s.rg=rg∧s'.g=lW t Ye s.g)
 | []=>.inl ⟨rfl,rfl⟩
 | (m,s)::r=>by obtain⟨s',e,h1,h2,h3⟩:=GG rg t Ye m s;rw[List.map_cons,e];by_cases hm:m=n;subst hm;exact .inr ⟨s,s',ai _ _ _,ai _ _ _,h1,h2,h3⟩;rw[ah _ _ hm,ah _ _ hm];exact td rg t Ye n r
theorem n8(rg t:Nat)(Ye:Bool)(n:Nat){l l':List (Nat×Slot)}(h:oT rg t Ye l=some l'):(look l n=none∧look l' n=none)∨∃s s',look l n=some s∧look l' n=some s'∧s'.rg=s.rg∧s'.v=s.v∧(s'.g=s.g∨s.rg=rg∧s'.g=lW t Ye s.g):=by rw[I9 h];exact td rg t Ye n l
theorem RI.strip{sl Z2:List (Nat×Slot)}{rd ws:List (Nat×Nat)}(h:RI C nt w0 XN ⟨sl,H,nm,rg,rd,ws⟩ ρ a W)(hb:a.tmps[t]? = some (.bool Ye))(hu:oT rg t Ye sl=some Z2) :
  RI C nt w0 XN ⟨Z2,H,nm,rg,rd,ws⟩ ρ a W:=by
 have key:∀{n:Nat} {s':Slot},look Z2 n=some s'->∃s,look sl n=some s∧s'.rg=s.rg∧s'.v=s.v∧(s'.g=s.g∨s.rg=rg∧s'.g=lW t Ye s.g):=λ{n s'} hs=>by
  rcases n8 rg t Ye n hu with ⟨-,h2⟩|⟨s,s'',k1,k2,k3⟩
  rw[h2] at hs;cases hs;rw[k2] at hs;obtain rfl:=Oi hs;exact⟨s,k1,k3⟩
 refine⟨h.base,λn s' hs=>?_,λn s' hs hr hg=>?_,λn s' hs hr=>?_,λn s' hs hr p hp=>?_⟩;obtain⟨s,k1,k2,-⟩:=key hs;rw[k2];exact h.rgs n s k1
 ·obtain⟨s,k1,k2,k3,k4⟩:=key hs;rw[k3];rcases k4 with k4|⟨k4,-⟩
  exact h.out n s k1 (by rw[<-k2];exact hr) (by rw[<-k4];exact hg);exact P' (k2.trans k4) hr
 ·obtain⟨s,k1,k2,k3,k4⟩:=key hs;have hn:=h.ins n s k1 (k2.symm.trans hr);rw[k3];rcases k4 with k4|⟨-,k4⟩
  rw[k4];exact hn;rw[k4];exact⟨λhh=>hn.1 ((mP hb).1 hh),λhh=>hn.2 λc=>hh ((mP hb).2 c)⟩
 obtain⟨s,k1,k2,-,k4⟩:=key hs;have hp':p∈s.g:=by
  rcases k4 with k4|⟨-,k4⟩
  rw[<-k4];exact hp;rw[k4] at hp;exact qD hp
 obtain⟨s0,q1,q2⟩:=h.cl n s k1 (k2.symm.trans hr) p hp';rcases n8 rg t Ye p.1 hu with ⟨h2,-⟩|⟨s1,s2,r1,r2,r3,-⟩
 rw[q1] at h2;cases h2;rw[q1] at r1;obtain rfl:=Oi r1;exact⟨s2,r2,r3.trans q2⟩
theorem Ly(hI:eT C I)(h:RI C nt w0 XN st ρ a W)(he:evG Γ nt I inls ops.toList sp k o st M)(hK:∀X4 XM a' W',M X4->RI C nt w0 XN X4 XM a' W'->K a' W') :
  if Region.wanted o (yielded ops a.tmps)=true then c8 C.P C.co o a W K else K (a.put o.dst undef) W:=by
 obtain⟨sl,H,nm,rg,rd,ws⟩:=st;have hb:∀st ρ,RI C nt w0 XN st ρ a W->yC Γ nt I inls ops.toList k (bare o) st M->c8 C.P C.co o a W K:=λst ρ h he=>by have:=yB hI h he hK;rw[Xl (eD rfl),Qw] at this;exact this
 cases sp with
 | false=>exact yB hI h he hK
 | true=>
  simp only[evG] at he;have hd:=Fe (ops:=ops) (o:=o) h;have hd:(La ops.toList rg sl o).Ok ops a ⟨sl,H,nm,rg,rd,ws⟩ o:=hd;split at he;exact yB hI h he hK;rename_i heq;rw[heq] at hd;replace hd:Region.wanted o (yielded ops a.tmps)=true:=hd;rw[Xl hd];exact hb _ _ h he;rename_i g heq;rw[heq] at hd;rw[Xk hd.1];exact w6 h he hd.2.1 hd.2.2 hK;rename_i t j Ye b heq;rw[heq] at hd;obtain⟨d1,d2,s,d3,d4,d5⟩:=hd;simp only[jw] at he;by_cases e:b=Ye;rw[Xl (d1.2 e)];have he:=he.1 e;split at he;rename_i sl'' hu;have hu:oT rg t Ye ((t,⟨rg,j,[],.bl Ye⟩)::sl)=some sl'':=hu;have d2':a.tmps[t]? = some (.bool Ye):=(by rw[<-e];exact d2);exact hb _ _ ((h.lit (j:=j) d3 d4 (b:=Ye) d2').strip d2' hu) he;exact he.elim;have e2:b = !Ye:=(by cases b<;>cases Ye<;>first|rfl|exact P' rfl e);rw[Xk λc=>e (d1.1 c)];have he:=he.2 e2;split at he
  rotate_left
  exact he.elim;rename_i sl'' hu;have hu:oT rg t (!Ye) ((t,⟨rg,j,[],.bl (!Ye)⟩)::sl)=some sl'':=hu;have d2':a.tmps[t]? = some (.bool (!Ye)):=(by rw[<-e2];exact d2);refine w6 ((h.lit d3 d4 (b:=!Ye) (j:=j) d2').strip d2' hu) he (λc=>?_) (λp hp=>?_) hK;have:=c (t,Ye) J';rw[d2,e2] at this;cases Ye<;>cases this;obtain rfl:p=(t,Ye):=(by simpa using hp);rcases n8 rg t (!Ye) t hu with ⟨h2,-⟩|⟨s1,s2,r1,r2,r3,-⟩
  rw[ai] at h2;cases h2;rw[ai] at r1;obtain rfl:=Oi r1;exact⟨s2,r2,r3⟩
theorem RI.later(h:RI C nt w0 XN st ρ a W)(r:Rv W W1):RI C nt w0 XN st ρ a W1:=
 ⟨h.base.same (dst:=none) (x:=undef) ⟨r.os,r.tape,r.output,r.size,λb hb=>r.same hb⟩,h.rgs,h.out,h.ins,h.cl⟩
theorem S6{k:Nat}{al:List SV}{K:SV->aU->Nat->Prop}(hI:eT C I)(h:RI C nt w0 XN st ρ a W)(hs:Au inls nt ops.toList st o=some (f,al))(he:I f al st.H st.nm K):NS C.P (execOp a.eval o):=by
 obtain⟨dst,oo,ty,pos,after,guard⟩:=o;unfold Au at hs;split at hs
 ·rename_i c hoo;obtain rfl:oo=.call c:=hoo;split at hs
  ·rename_i x ZG;split at hs
   ·rename_i sf hg hsf hdst;split at hs
    ·rename_i g first captured args hcl XY
     split at hs;split at hs;rename_i al' hal;obtain⟨rfl,rfl⟩:=F7 (Oi hs);have XZ:=mZ (heads:=ops.toList) (k:=0) (o:=⟨dst,.call c,ty,pos,after,guard⟩) h (holds_nil a);obtain⟨fv,cv,Z1,-⟩:=ny XZ hsf hcl XY;exact pb ZG Z1 (hI _ _ _ _ _ he).2.1;cases hs;cases hs
    cases hs
   cases hs
  cases hs
 cases hs
theorem Sy(h:RI C nt w0 XN st ρ a W)(hs:z5 C nt ops.toList st o=some (n,neg)):NS C.P (execOp a.eval o):=by
 obtain⟨dst,oo,ty,pos,after,guard⟩:=o;unfold z5 at hs;split at hs
 ·rename_i b t x y yt hoo;obtain rfl:oo=.binOp b t x y yt:=hoo;split at hs
  ·rename_i ng el hng hel hg hdst;split at hs
   ·rename_i u v hu hv;split at hs;rename_i hv1 ZL;have XZ:=mZ (heads:=ops.toList) (k:=0) (o:=⟨dst,.binOp b t x y yt,ty,pos,after,guard⟩) h (holds_nil a);obtain⟨ad,l,c,e1,-⟩:=wC ZL (XZ.get hu);have e2:=wK hv1 (XZ.get hv);have key:NS C.P (binOp b t (a.eval x) (a.eval y))->NS C.P (execOp a.eval ⟨dst,.binOp b t x y yt,ty,pos,after,guard⟩):=λk=>aa (aa (oB _ _ _ _ _ _) λ_=>k) λ_=>trivial;refine key ?_;rw[e1,e2];cases b<;>first|exact aa (xW _ _ _ _ _) λ_=>trivial|cases hng
    cases hs
   cases hs
  cases hs
 cases hs
theorem sM(hI:eT C I)(h:RI C nt w0 XN st ρ a W)(he:yC Γ nt I inls ops.toList k o st M)(hw:Region.wanted o (yielded ops a.tmps)=true):NS C.P (execOp a.eval o):=by obtain⟨sl,H,nm,rg,rd,ws⟩:=st;simp only[yC] at he;split at he;rename_i hs;simp only[jw,gh] at he;exact S6 (k:=k) hI h hs he;split at he;rename_i n neg hs;exact Sy h hs;split at he;cases he;rename_i X4 ob hs;exact NN h hs hw
theorem Ts(hI:eT C I)(h:RI C nt w0 XN st ρ a W)(he:evG Γ nt I inls ops.toList sp k o st M)(hw:Region.wanted o (yielded ops a.tmps)=true):NS C.P (execOp a.eval o):=by
 obtain⟨sl,H,nm,rg,rd,ws⟩:=st;cases sp with
 | false=>exact sM hI h he hw
 | true=>
  simp only[evG] at he;have hd:=Fe (ops:=ops) (o:=o) h;have hd:(La ops.toList rg sl o).Ok ops a ⟨sl,H,nm,rg,rd,ws⟩ o:=hd;split at he;exact sM hI h he hw;exact sM (o:=bare o) hI h he (eD rfl);rename_i g heq;rw[heq] at hd;exact P' hw hd.1;rename_i t j Ye b heq;rw[heq] at hd;obtain⟨d1,d2,s,d3,d4,d5⟩:=hd;simp only[jw] at he;have e:=d1.1 hw;have he:=he.1 e;split at he;rename_i sl'' hu;have hu:oT rg t Ye ((t,⟨rg,j,[],.bl Ye⟩)::sl)=some sl'':=hu;have d2':a.tmps[t]? = some (.bool Ye):=(by rw[<-e];exact d2);exact sM (o:=bare o) hI ((h.lit (j:=j) d3 d4 (b:=Ye) d2').strip d2' hu) he (eD rfl);exact he.elim
theorem Tq(hI:eT C I)(h:RI C nt w0 XN st ρ a W)(he:evG Γ nt I inls ops.toList sp k o st M)(hK:∀X4 XM a' W',M X4->RI C nt w0 XN X4 XM a' W'->K a' W') :
  if Region.wanted o (yielded ops a.tmps)=true then OpJ C.P C.co o a W K else K (a.put o.dst undef) W:=by
 have h0:=Ly hI h he hK;split;rename_i hw;refine⟨Ts hI h he hw,λW1 r=>?_⟩;have h1:=Ly hI (h.later r) he hK;rw[Xl hw] at h1;exact h1;rename_i hw;rw[Xk hw] at h0;exact h0
theorem mM{ops:Array Oper}{sp:Bool}{Q:Exit->Act->World->Prop}(hI:eT C I){K:St->Prop}(hQ:∀st ρ a W,K st->RI C nt w0 XN st ρ a W->Q .normal a W) :
  ∀(r:List Oper) (k:Nat) (st:St) (ρ:Names) (a:Act) (W:World),RI C nt w0 XN st ρ a W->uM Γ nt I inls ops.toList sp k r st K->cL C.P C.co ops Q r a W
 | [],k,st,ρ,a,W,h,he=>hQ st ρ a W he h
 | o::r,k,st,ρ,a,W,h,he=>by simp only[uM,lF] at he;refine xq λK' hK'=>?_;exact Tq hI h he λX4 XM a' W' hM h'=>hK' _ _ (mM hI hQ r (k+1) X4 XM a' W' h' hM)
def OJ(_:Oper):Bool:=true
theorem AX{full:Nat}{draw:Bool}{id:Nat}{Q:Exit->Act->World->Prop}{K:St->Prop}(hI:eT C I)(hm:C.P.follows .mixedOrders=true)(hB0:Et full ops draw=true)(h:Rp C nt w0 XN st ρ a W)(he:pt Γ nt I inls full sp ops draw st K)(hQ:∀st ρ a W,K st->Rp C nt w0 XN st ρ a W->Q .normal a W):wpR C.P C.co (.region id ops draw) Q a W:=by
 obtain⟨sl,H,nm,rg,rd,ws⟩:=st;have hi:=h.enter;have hQ':∀st ρ a W,K st->RI C nt w0 XN st ρ a W->Q .normal a W:=λst ρ a W hk hr=>hQ st ρ a W hk hr.leave;cases draw with
 | false=>
  simp only[pt,lF] at he;exact lT (mM hI hQ' _ _ _ _ _ _ hi he)
 | true=>
  unfold pt at he;simp only[lF] at he;have hB:kG ops (gK full ops.toList)=true:=hB0;clear hB0;rw[oV] at he;have hle:gK full ops.toList<=ops.toList.length:=by
   generalize ops.toList=l
   induction l with
   | nil=>simp[gK]
   | cons o r ih=>simp only[gK];split<;>simp<;>omega
  generalize gK full ops.toList=n at he hB hle;have hlen:(ops.toList.take n).length=n:=(by rw[List.length_take];omega);obtain⟨XV,hK⟩:=uN _ (l:=ops.toList.take n) (st0:=⟨sl,H,nm,rg+1,[],[]⟩) (ops.toList.take n) 0 (λj=>by simp) (by simp) he;have F:cQ Γ nt ops.toList (ops.toList.take n) ⟨sl,H,nm,rg+1,[],[]⟩ (pU (iF Γ nt true ops.toList (ops.toList.take n)) (ops.toList.take n) ⟨sl,H,nm,rg+1,[],[]⟩):=
   ⟨rfl,λi o ho=>XV i o (F9 _) ho,λt s hs=>by
    have:s.rg<=rg:=h.rgs t s hs;show s.rg≠rg+1;omega,λi o ho=>by
    have hl:i<n:=by have:=(F3.1 ho).1;omega
    rwa [Xn hl] at ho⟩
  refine l8 hm λW1 r1=>?_;have hid:=hi.later r1;refine oq (n:=n) hB (λlisted a' W'=>∃XM,HI C nt w0 XN (ops.toList.take n) ⟨sl,H,nm,rg+1,[],[]⟩ (pU (iF Γ nt true ops.toList (ops.toList.take n)) (ops.toList.take n) ⟨sl,H,nm,rg+1,[],[]⟩) ρ a listed XM a' W')
   ⟨ρ,uq F hid (λi=>getD_replicate_false _ i)⟩ ?_ ?_
  intro listed a' W' i o inv hI' hin ho hu X7 K' hK';have hho:(ops.toList.take n)[i]? = some o:=(by rw[Xn hin];simpa using ho);exact E9 F hlen hid listed a' W' i o inv hI' hin ho hho hu X7 K' hK';intro listed a' W' ⟨XM,hI'⟩ X8;exact mM hI hQ' _ _ _ XM a' W' (wQ F hid hI' (by rw[hlen];exact X8)) hK
end
end Go.Proofs.YtmdpdknpapjchaaGreatDoor
