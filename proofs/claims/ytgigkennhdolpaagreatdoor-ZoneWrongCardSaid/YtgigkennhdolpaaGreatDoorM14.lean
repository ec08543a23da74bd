/- A symbolic executor with lists, 16. -/
import Derived.Test.YtgigkennhdolpaaGreatDoorM13
import Derived.RangeFuncCalls
import Derived.RangeFuncFrom
import Derived.RangeFuncLeaves
import Derived.OrdersIn
import Derived.TacticsIn
namespace Go.Proofs.YtgigkennhdolpaaGreatDoor
open Go.RowKit
section
variable {PP:Program}{C:Cx PP}{Γ:List (UO C)}{nt:Nat}{ops:Array Oper}{heads:List Oper}{st0:St}{S:Nat->St}{w0:World}{UM:Names}{VU:Names}{a0:Act}{W1:World}
theorem uW(F:cH Γ nt ops.toList heads st0 S)(h0:RI C nt w0 UM st0 VU a0 W1){listed:Array Bool}{ρ:Names}{a:Act}{W:World}(h:HI C nt w0 UM heads st0 S VU a0 listed ρ a W)
  (U1:∀i,i<heads.length->listed.getD i false=true):RI C nt w0 UM (S heads.length) ρ a W:=by
 have hrg:=F.rg heads.length (I' _);have hk:∀t s,look (S heads.length).sl t=some s->s.rg=st0.rg->listed.getD s.k false=true:=λt s hs hr=>U1 s.k (F.ins _ (I' _) t s hs hr).1;refine⟨⟨h.mem,λn sb hn=>?_,h.sz,h.df⟩,λt s hs=>?_,λt s hs hr hg=>?_,λt s hs hr=>?_,λt s hs hr p hp=>?_⟩
 ·rcases F.heap _ (I' _) n sb hn with ⟨h1,h2⟩|⟨j,hj,ZZ,h3⟩
  exact h.con n sb h1 λi Vu hi hwi=>Up hwi (h2 i Vu hi);exact h.wr j n sb hj (U1 j hj) ZZ λj' Vu h1 h2 h4=>Up h4 (h3 j' Vu h1 h2)
 by_cases hr:s.rg=st0.rg;omega;have:=h0.rgs t s (F.out _ (I' _) t s hs hr);omega;rw[hrg] at hr;have YN:=F.out _ (I' _) t s hs hr;obtain⟨y,h1,h2⟩:=h0.out t s YN hr hg;refine⟨y,bE h.le _ _ h1,?_⟩;rw[h.out t ?_];exact h2;intro i o hi hd;exfalso;obtain⟨g,r,-,e,-⟩:=F.own hi hd;rw[hs] at e;rw[Oi e] at hr;exact hr rfl;rw[hrg] at hr;exact h.ins t s hs hr (hk t s hs hr);rw[hrg] at hr;obtain⟨s',q1,q2,-⟩:=F.atoms (md:=ops) (n:=heads.length) rfl s.k t s rfl hs hr p hp;exact⟨s',q1,by rw[hrg];exact q2⟩
theorem sG(F:cH Γ nt ops.toList heads st0 S)(h0:RI C nt w0 UM st0 VU a0 W1){listed:Array Bool}(hl:∀i,listed.getD i false=false):HI C nt w0 UM heads st0 S VU a0 listed VU a0 W1:=by
 have g:Gr W1 W1:=Gr.refl W1;have h1:=F.nm (i:=0) (j:=heads.length) (by omega) (I' _);rw[F.s0] at h1;exact⟨(h0.base.mem.gr g).up h1,.refl _,λm b hm=>.inl (h0.base.mem.dom m b hm),λm b hm=>.inl (h0.base.mem.domv m b hm).1,λm sb hm _=>(h0.base.Vg.gr g).blk m sb hm,
  (λi m sb _ h=>by rw[hl] at h;cases h),(λt s _ _ h=>by rw[hl] at h;cases h),λt _=>rfl,h0.base.sz,h0.base.df⟩
end
def qB(n:Nat):List Nat->Bool
 | []=>false
 | m::r=>match Nat.beq m n with|true=>true|false=>qB n r
abbrev Ya:=Nat->List SV->aY->Nat->(SV->aY->Nat->Prop)->Prop
def eu{PP:Program}(C:Cx PP)(I:Ya):Prop:=
 ∀f args H nm K,I f args H nm K->(∀(a:Array Value) (w:World),(callFunc f a).run C.P w=.ok (.enter f a) w)∧(∀a:Array Value,NS C.P (callFunc f a))∧∀(ρ:Names) (W:World) (vs:List Value),VQ C H ρ W->(∀n b,ρ.n n=some b->n<nm)->(∀e l,ρ.v e=some l->e<nm∧l.o<nm)->(∀m i l,ρ.k m i=some l->m<nm)->aj ρ args vs->
  br C.P C.co f vs.toArray W λe W'=>∃v val H' Vv UL,e=.returned val∧K v H' Vv∧Mem C W ρ.VE Vv UL W'∧(∀n sb,look H' n=some sb->cS UL W' n sb)∧den UL v val
def yJ(inls:List Nat)(nt:Nat)(ops:List Oper)(st:St)(o:Oper):Option (Nat×List SV):=
 match o.op with
 | .call c=>match c.callee with
  | .value x=>match guardOf false ops st.rg st.sl o,mI false ops 0 st.rg st.sl o [] [] x,zr nt st.rg st.sl o with
   | some [],some sf,true=>match callee sf,YW (mI false ops 0 st.rg st.sl o []) c.args.toList with
    | some (g,first,captured),some args=>match qB g inls with
     | true=>match laid (first++args++captured) with|some al=>some (g,al)|none=>none
     | false=>none
    | _,_=>none
   | _,_,_=>none
  | _=>none
 | _=>none
def Bb:SV->Option Nat
 | .kd _ _ _ _ n=>some n
 | .e=>some 0
 | .rs _ n _=>some n
 | .g _ _ _ _ n=>some n
 | _=>none
def Ov:BinOp->Option Bool
 | .eql=>some false
 | .neq=>some true
 | _=>none
def Bm:SV->Bool
 | .v (.slice none 0 0)=>true
 | _=>false
def yl{PP:Program}(C:Cx PP)(nt:Nat)(ops:List Oper)(st:St)(o:Oper):Option (Nat×Bool):=
 match o.op with
 | .binOp b t x y _=>match Ov b,gN C t,guardOf false ops st.rg st.sl o,zr nt st.rg st.sl o with
  | some neg,some _,some [],true=>match mI false ops 0 st.rg st.sl o [] [] x,mI false ops 0 st.rg st.sl o [] [] y with
   | some u,some v=>match Bm v,Bb u with|true,some n=>some (n,neg)|_,_=>none
   | _,_=>none
  | _,_,_,_=>none
 | _=>none
def wU{PP:Program}{C:Cx PP}(Γ:List (UO C))(nt:Nat)(I:Ya)(inls:List Nat)(ops:List Oper)(k:Nat)(o:Oper):St->(St->Prop)->Prop
 | ⟨sl,H,nm,rg,rd,ws⟩,M=>match yJ inls nt ops ⟨sl,H,nm,rg,rd,ws⟩ o with
  | some (f,al)=>match kO al with|.mk Zc=>(I f Zc H nm λv H nm=>match qb rg k [] v o.dst sl with|.mk Xj=>M ⟨Xj,H,nm,rg,rd,ws⟩|.no=>False)|.no=>False
  | none=>match yl C nt ops ⟨sl,H,nm,rg,rd,ws⟩ o with
   | some (n,neg)=>∀b:Bool,(b=true->n=0)->match qb rg k [] (.v (.bool (b != neg))) o.dst sl with|.mk Xj=>M ⟨Xj,H,nm,rg,rd,ws⟩|.no=>False
   | none=>match gS Γ nt false ops ops k o ⟨sl,H,nm,rg,rd,ws⟩ with
    | none=>False
    | some (UZ,ob)=>QV ob (M UZ)
inductive GD where
 | plain
 | go (t:Nat)
 | skip (g:List (Nat×Bool))
 | both (t j:Nat) (U' b:Bool)
def I1(rg:Nat)(sl:List (Nat×Slot))(t:Nat):Option Bool:=
 match look sl t with
 | none=>none
 | some ⟨Yc,_,sg,v⟩=>match Nat.beq Yc rg,sg,v with
  | true,[],.bl b=>some b
  | _,_,_=>none
def IZ(ops:List Oper)(rg:Nat)(sl:List (Nat×Slot))(o:Oper):GD:=
 match o.guard with
 | none=>.plain
 | some (j,U')=>match ops[j]? with
  | none=>.plain
  | some oj=>match oj.dst with
   | none=>.plain
   | some t=>match look sl t with
    | none=>.plain
    | some ⟨Yc,sk,sg,v⟩=>match Nat.beq Yc rg,Nat.beq sk j with
     | true,true=>match sg with
      | []=>match v with
       | .bl b=>match b==U' with|true=>.go t|false=>.skip [(t,U')]
       | .v (.bool b)=>.both t j U' b
       | _=>.plain
      | (t',pol')::_=>match I1 rg sl t' with
       | some b=>match b==pol' with|true=>.plain|false=>.skip [(t',pol')]
       | none=>.plain
     | _,_=>.plain
def bare(o:Oper):Oper:=⟨o.dst,o.op,o.type,o.pos,o.after,none⟩
def wR(nt:Nat)(k:Nat)(g:List (Nat×Bool))(o:Oper):St->(St->Prop)->Prop
 | ⟨sl,H,nm,rg,rd,ws⟩,M=>match zr nt rg sl o with
  | true=>match qb rg k g (.bl false) o.dst sl with|.mk Xj=>M ⟨Xj,H,nm,rg,rd,ws⟩|.no=>False
  | false=>False
def kY(t:Nat)(U':Bool):List (Nat×Bool)->List (Nat×Bool)
 | []=>[]
 | (t',p')::r=>match Nat.beq t' t,Hj p' U' with|true,true=>kY t U' r|_,_=>(t',p')::kY t U' r
def ju(rg t:Nat)(U':Bool):Nat×Slot->Nat×Slot
 | (n,⟨Yc,k,g,v⟩)=>match g with
  | []=>(n,⟨Yc,k,[],v⟩)
  | x::g'=>match Nat.beq Yc rg with
   | false=>(n,⟨Yc,k,x::g',v⟩)
   | true=>(n,⟨Yc,k,kY t U' (x::g'),v⟩)
def AA(rg t:Nat)(U':Bool):List (Nat×Slot)->List (Nat×Slot)->Option (List (Nat×Slot))
 | [],acc=>some acc
 | (n,⟨Yc,k,g,v⟩)::r,acc=>match g with
  | []=>AA rg t U' r ((n,⟨Yc,k,[],v⟩)::acc)
  | x::g'=>match Nat.beq Yc rg with
   | false=>AA rg t U' r ((n,⟨Yc,k,x::g',v⟩)::acc)
   | true=>match laid (kY t U' (x::g')) with
    | some g''=>AA rg t U' r ((n,⟨Yc,k,g'',v⟩)::acc)
    | none=>none
def Pe{α:Type} : List α->List α->Option (List α)
 | [],acc=>some acc
 | x::r,acc=>Pe r (x::acc)
def nX(rg t:Nat)(U':Bool)(l:List (Nat×Slot)):Option (List (Nat×Slot)):=match AA rg t U' l [] with|some l'=>Pe l' []|none=>none
theorem Cj{rg t:Nat}{U':Bool} : ∀{l acc o:List (Nat×Slot)},AA rg t U' l acc=some o->o=(l.map (ju rg t U')).reverse++acc
 | [],acc,o,h=>by obtain rfl:=Oi h;rfl
 | (n,⟨Yc,k,g,v⟩)::r,acc,o,h=>by simp only[AA] at h;have key:∀x,AA rg t U' r (x::acc)=some o->x=ju rg t U' (n,⟨Yc,k,g,v⟩)->o=(((n,⟨Yc,k,g,v⟩)::r).map (ju rg t U')).reverse++acc:=λx hx e=>(by rw[Cj hx,e];simp);split at h;exact key _ h rfl;split at h;rename_i hr;exact key _ h (by simp only[ju,hr]);rename_i hr;split at h;rename_i g'' hl;refine key _ h ?_;rw[dj hl];simp only[ju,hr];cases h
theorem Cs{α:Type} : ∀{l acc o:List α},Pe l acc=some o->o=l.reverse++acc
 | [],acc,o,h=>by obtain rfl:=Oi h;rfl
 | x::r,acc,o,h=>by rw[Cs (l:=r) h];simp
theorem G5{rg t:Nat}{U':Bool}{l o:List (Nat×Slot)}(h:nX rg t U' l=some o):o=l.map (ju rg t U'):=by unfold nX at h;split at h;rename_i l' hl;rw[Cs h,Cj hl];simp;cases h
def evG{PP:Program}{C:Cx PP}(Γ:List (UO C))(nt:Nat)(I:Ya)(inls:List Nat)(ops:List Oper)(sp:Bool)(k:Nat)(o:Oper):St->(St->Prop)->Prop
 | ⟨sl,H,nm,rg,rd,ws⟩,M=>match sp with
  | false=>wU Γ nt I inls ops k o ⟨sl,H,nm,rg,rd,ws⟩ M
  | true=>match IZ ops rg sl o with
   | .plain=>wU Γ nt I inls ops k o ⟨sl,H,nm,rg,rd,ws⟩ M
   | .go _=>wU Γ nt I inls ops k (bare o) ⟨sl,H,nm,rg,rd,ws⟩ M
   | .skip g=>wR nt k g o ⟨sl,H,nm,rg,rd,ws⟩ M
   | .both t j U' b=>
    (b=U'->match qb rg j [] (.bl U') (some t) sl with|.mk Xj=>(match nX rg t U' Xj with|some Yv=>wU Γ nt I inls ops k (bare o) ⟨Yv,H,nm,rg,rd,ws⟩ M|none=>False)|.no=>False) ∧
    (b = !U'->match qb rg j [] (.bl (!U')) (some t) sl with|.mk Xj=>(match nX rg t (!U') Xj with|some Yv=>wR nt k [(t,U')] o ⟨Yv,H,nm,rg,rd,ws⟩ M|none=>False)|.no=>False)
def sX{PP:Program}{C:Cx PP}(Γ:List (UO C))(nt:Nat)(I:Ya)(inls:List Nat)(ops:List Oper)(sp:Bool):Nat->List Oper->St->(St->Prop)->Prop
 | _,[],st,K=>K st
 | k,o::r,st,K=>match yK k with
  | .mk k'=>evG Γ nt I inls ops sp k o st λUZ=>sX Γ nt I inls ops sp k' r UZ K
  | .no=>False
def OD(fl:List Nat)(id:Nat):Nat:=match qB id fl with|true=>1|false=>match qB (2000+id) fl with|true=>2|false=>0
def Mf(full:Nat):Op->Bool
 | .store ..=>match full with|1=>true|_=>false
 | .mapUpdate ..=>false
 | .call c=>match full with|2=>(match c.callee with|.value _=>false|_=>true)|_=>true
 | _=>true
def gg(full:Nat):List Oper->Nat
 | []=>0
 | o::r=>match Mf full o.op with|true=>gg full r+1|false=>0
def ly:Nat->List Oper->List Oper
 | 0,_=>[]
 | _,[]=>[]
 | n+1,x::r=>x::ly n r
theorem nZ:∀(n:Nat) (l:List Oper),ly n l=l.take n
 | 0,l=>by simp[ly]
 | n+1,[]=>by simp[ly]
 | n+1,x::r=>by simp[ly,nZ n r]
def oB{PP:Program}{C:Cx PP}(Γ:List (UO C))(nt:Nat)(I:Ya)(inls:List Nat)(full:Nat)(sp:Bool)(ops:Array Oper)(draw:Bool):St->(St->Prop)->Prop
 | ⟨sl,H,nm,rg,_,_⟩,K=>match draw with
  | false=>match yK rg with|.mk rg'=>sX Γ nt I inls ops.toList sp 0 ops.toList ⟨sl,H,nm,rg',[],[]⟩ K|.no=>False
  | true=>match yK rg with
   | .no=>False
   | .mk rg'=>zk (gS Γ nt true ops.toList (ly (gg full ops.toList) ops.toList)) 0 (ly (gg full ops.toList) ops.toList) ⟨sl,H,nm,rg',[],[]⟩
     λst=>sX Γ nt I inls ops.toList sp (gg full ops.toList) (ops.toList.drop (gg full ops.toList)) st K
def Ct(full:Nat)(ops:Array Oper)(draw:Bool):Bool:=match draw with|true=>jO ops (gg full ops.toList)|false=>true
section
variable {PP:Program}{C:Cx PP}{Γ:List (UO C)}{nt:Nat}{w0:World}{UM ρ:Names}{a:Act}{W:World}{I:Ya}{inls:List Nat}
theorem Rp.enter{sl:List (Nat×Slot)}{H:aY}{nm rg:Nat}{rd ws:List (Nat×Nat)}(h:Rp C nt w0 UM ⟨sl,H,nm,rg,rd,ws⟩ ρ a W):RI C nt w0 UM ⟨sl,H,nm,rg+1,[],[]⟩ ρ a W:=by
 have UR:∀t s,look sl t=some s->s.rg≠rg+1:=λt s hs e=>by have:s.rg<=rg:=h.rgs t s hs;omega
 exact⟨h.base,λt s hs=>Nat.le_succ_of_le (h.rgs t s hs),λt s hs _ hg=>h.cA t s hs hg,λt s hs hr=>Up hr (UR t s hs),λt s hs hr=>Up hr (UR t s hs)⟩
theorem RI.leave{st:St}(h:RI C nt w0 UM st ρ a W):Rp C nt w0 UM st ρ a W:=
 ⟨h.base,h.rgs,λt s hs hg=>by
  by_cases hr:s.rg=st.rg;exact(h.ins t s hs hr).1 (by rw[hg];exact holds_nil a)
  ·exact h.out t s hs hr hg⟩
theorem IP{ops:Array Oper}{st:St}{o:Oper}{f k:Nat}{al:List SV}(hI:eu C I)(h:RI C nt w0 UM st ρ a W)(hs:yJ inls nt ops.toList st o=some (f,al)){M:St->Prop}
  (he:I f al st.H st.nm λv H nm=>M ⟨ED st.rg k [] v o.dst st.sl,H,nm,st.rg,st.rd,st.ws⟩) {K:Act->World->Prop} (hK:∀UZ UL a' W',M UZ->RI C nt w0 UM UZ UL a' W'->K a' W') :
  if Region.wanted o (yielded ops a.tmps)=true then cR C.P C.co o a W K else K (a.put o.dst undef) W:=by
 obtain⟨dst,oo,ty,pos,after,guard⟩:=o;unfold yJ at hs;split at hs
 ·rename_i c Z3;obtain rfl:oo=.call c:=Z3;split at hs
  ·rename_i x WI;split at hs
   ·rename_i sf hg hsf Yz;split at hs
    ·rename_i g first captured args YR U7
     split at hs
     ·split at hs
      ·rename_i Zc YS;obtain⟨rfl,rfl⟩:=P' (Oi hs);obtain rfl:=dj YS;obtain⟨c1,-,-⟩:=kL h hg;rw[Uw (c1.2 (holds_nil a))];obtain⟨en,-,hc⟩:=hI _ _ _ _ _ he;have UQ:=mc (heads:=ops.toList) (k:=0) (o:=⟨dst,.call c,ty,pos,after,guard⟩) h (holds_nil a);obtain⟨fv,cv,XI,U1⟩:=mE UQ hsf YR U7;have Y5:=hc ρ W _ h.base.Vg h.base.mem.dom h.base.mem.domv h.base.mem.domk U1;unfold cR;rw[oA WI XI en rfl];show br _ _ _ _ _ _;have e:(fv++c.args.map a.eval++cv).toList.toArray=fv++c.args.map a.eval++cv:=(by simp);rw[e] at Y5;refine Y5.mono ?_;rintro e W' ⟨v,val,H',Vv,UL,rfl,hM,Vm,VP,VJ⟩;refine hK _ UL _ W' hM ?_;obtain⟨d1,d2⟩:=kR Yz;have hb:∀dd:Option Nat,Base C nt w0 UM H' Vv UL (a.put dd val) W':=λdd=>⟨h.base.mem.trans Vm,VP,by cases dd<;>simp[Act.put,h.base.sz],by cases dd<;>exact h.base.df⟩
       cases dst with
       | none=>
        refine⟨hb none,h.rgs,λt s hs hr Zl=>?_,λt s hs hr=>?_,h.cl⟩;obtain⟨x,h1,h2⟩:=h.out t s hs hr Zl;exact⟨x,bE Vm.le.unD _ _ h1,h2⟩;obtain⟨h1,h2⟩:=h.ins t s hs hr;exact⟨λhh=>let ⟨x,k1,k2⟩:=h1 hh;⟨x,bE Vm.le.unD _ _ k1,k2⟩,h2⟩
       | some d=>
        obtain⟨Wl,WX⟩:=d2 d rfl;have Y3:d<a.tmps.size:=(by rw[h.base.sz];exact Wl);exact h.put Vm.le.unD WX (λp hp=>by cases hp) ⟨λ_=>⟨val,VJ,fX Y3⟩,λhn=>Up (holds_nil _) hn⟩ (hb (some d))
      cases hs
     cases hs
    cases hs
   cases hs
  cases hs
 cases hs
theorem tW{P:Program}{w:World}{d:Nat}{t e:TypeId}{ad:Option Addr}{l c:Nat}(ht:P.underlying t=some (.slice e)):(Op.equalIn (d+1) t (.slice ad l c) (.slice none 0 0)).run P w=.ok ad.isNone w:=by cases ad<;>simp[Op.equalIn,run_underlying ht]
theorem uM{u:SV}{n:Nat}{y:Value}(h:Bb u=some n)(hd:den ρ u y):∃a l c,y=.slice a l c∧(a=none->n=0):=by unfold Bb at h;split at h;rename_i m i sz off n';obtain rfl:=Oi h;obtain⟨l,h1,h3,h4,a',rfl,h6⟩:=hd;refine⟨a',_,_,rfl,λha=>?_⟩;rcases Nat.eq_zero_or_pos (l.cap-off) with h0|h0;omega;obtain⟨b,-,k2⟩:=h6 (by omega);rw[ha] at k2;cases k2;obtain rfl:=Oi h;obtain⟨a,rfl⟩:=hd;exact⟨a,0,0,rfl,λ_=>rfl⟩;rename_i sz n' f;obtain rfl:=Oi h;obtain⟨a,cap,rfl,h2,h3⟩:=hd;refine⟨a,_,cap,rfl,λha=>?_⟩;rcases Nat.eq_zero_or_pos n' with h0|h0;exact h0;obtain⟨b,o,u,k1,-⟩:=h3 0 h0;rw[ha] at k1;cases k1;rename_i m e sz off n';obtain rfl:=Oi h;obtain⟨l,h1,h2,h3,h4,a',rfl,h6⟩:=hd;refine⟨a',_,_,rfl,λha=>?_⟩;rcases Nat.eq_zero_or_pos (l.cap-off) with h0|h0;omega;obtain⟨b,-,k2⟩:=h6 (by omega);rw[ha] at k2;cases k2;cases h
theorem uR{v:SV}{y:Value}(h:Bm v=true)(hd:den ρ v y):y=.slice none 0 0:=by unfold Bm at h;split at h;exact hd;cases h
theorem Io{ops:Array Oper}{st:St}{o:Oper}{k n:Nat}{neg:Bool}(h:RI C nt w0 UM st ρ a W)(hs:yl C nt ops.toList st o=some (n,neg)){M:St->Prop}
  (he:∀b:Bool,(b=true->n=0)->M ⟨ED st.rg k [] (.v (.bool (b != neg))) o.dst st.sl,st.H,st.nm,st.rg,st.rd,st.ws⟩) {K:Act->World->Prop} (hK:∀UZ UL a' W',M UZ->RI C nt w0 UM UZ UL a' W'->K a' W') :
  if Region.wanted o (yielded ops a.tmps)=true then cR C.P C.co o a W K else K (a.put o.dst undef) W:=by
 obtain⟨dst,oo,ty,pos,after,guard⟩:=o;unfold yl at hs;split at hs
 ·rename_i bo t x y yt Z3;obtain rfl:oo=.binOp bo t x y yt:=Z3;split at hs
  ·rename_i ng ei hng Vw hg Yz;split at hs
   ·rename_i u v hu hv;split at hs
    ·rename_i n' hb hnl;obtain⟨rfl,rfl⟩:=P' (Oi hs);obtain⟨c1,-,-⟩:=kL h hg;rw[Uw (c1.2 (holds_nil a))];have UQ:=mc (heads:=ops.toList) (k:=0) (o:=⟨dst,.binOp bo t x y yt,ty,pos,after,guard⟩) h (holds_nil a);obtain⟨ad,l,c,e1,h0⟩:=uM hnl (UQ.get hu);have e2:=uR hb (UQ.get hv);obtain⟨inf,z,ht,-⟩:=cD (e:=ei.1) (ei:=ei.2) Vw;have heq:(Op.equal t (.slice ad l c) (.slice none 0 0)).run C.P W=.ok ad.isNone W:=(by show (Op.equalIn (9999+1) t (.slice ad l c) (.slice none 0 0)).run C.P W=_;exact tW ht);have UU:(execOp a.eval ⟨dst,.binOp bo t x y yt,ty,pos,after,guard⟩).run C.P W=.ok (.value (.bool (ad.isNone != ng))) W:=by
      refine gW ?_ ?_;rw[e1,e2];unfold eqGuard;cases bo<;>rfl;rw[e1,e2];cases bo<;>simp only[Ov] at hng<;>first
       | (cases hng;done)
       | (obtain rfl:=Oi hng
          show (do pure (.bool (<-Op.equal t (.slice ad l c) (.slice none 0 0))):Sem Value).run C.P W=_;simp only[UJ,heq,UH,UI,Bool.bne_false])
       | (obtain rfl:=Oi hng
          show (do pure (.bool (!(<-Op.equal t (.slice ad l c) (.slice none 0 0)))):Sem Value).run C.P W=_;simp only[UJ,heq,UH,UI,Bool.bne_true])
     refine bs UU (hK _ ρ _ W (he ad.isNone λhn=>h0 (by simpa using hn)) ?_);obtain⟨d1,d2⟩:=kR Yz;have We:∀dd:Option Nat,Base C nt w0 UM st.H st.nm ρ (a.put dd (.bool (ad.isNone != ng))) W:=λdd=>h.base.same (Gr.refl W);cases dst with
     | none=>exact⟨We none,h.rgs,h.out,h.ins,h.cl⟩
     | some d=>
      obtain⟨Wl,WX⟩:=d2 d rfl;have Y3:d<a.tmps.size:=(by rw[h.base.sz];exact Wl);exact h.put (.refl _) WX (λp hp=>by cases hp) ⟨λ_=>⟨_,rfl,fX Y3⟩,λhn=>Up (holds_nil _) hn⟩ (We (some d))
    cases hs
   cases hs
  cases hs
 cases hs
theorem wT{ops:Array Oper}(hI:eu C I){k:Nat}{o:Oper}{st:St}{M:St->Prop}(h:RI C nt w0 UM st ρ a W)(he:wU Γ nt I inls ops.toList k o st M)
  {K:Act->World->Prop} (hK:∀UZ UL a' W',M UZ->RI C nt w0 UM UZ UL a' W'->K a' W') :
  if Region.wanted o (yielded ops a.tmps)=true then cR C.P C.co o a W K else K (a.put o.dst undef) W:=by
 obtain⟨sl,H,nm,rg,rd,ws⟩:=st;simp only[wU] at he;split at he;rename_i hs;simp only[iP,fN] at he;exact IP (M:=M) hI h hs he hK;rename_i hs;split at he;rename_i n neg hs;simp only[iP] at he;exact Io (k:=k) (M:=M) h hs he hK;split at he;cases he;rename_i UZ ob hs;obtain⟨h1,h2⟩:=Ea he;exact step_seq h hs h1 λUL a' W' h'=>hK _ _ _ _ h2 h'
theorem I0{st:St}{t:Nat}{b:Bool}(h:RI C nt w0 UM st ρ a W)(e:I1 st.rg st.sl t=some b):a.tmps[t]? = some (.bool b)∧∃s,look st.sl t=some s∧s.rg=st.rg:=by unfold I1 at e;split at e;cases e;rename_i Yc sk sg v hs;split at e;rename_i b' hb;obtain rfl:=Oi e;have hr:=Nb hb;obtain⟨x,h1,h2⟩:=(h.ins t _ hs hr).1 (holds_nil a);obtain rfl:x=.bool b':=h1;exact⟨h2,_,hs,hr⟩;cases e
def GD.Ok(ops:Array Oper)(a:Act)(st:St)(o:Oper):GD->Prop
 | .plain=>True
 | .go _=>Region.wanted o (yielded ops a.tmps)=true
 | .skip g=>¬Region.wanted o (yielded ops a.tmps)=true∧¬holds a g∧∀p∈g,∃s',look st.sl p.1=some s'∧s'.rg=st.rg
 | .both t _ U' b=>(Region.wanted o (yielded ops a.tmps)=true↔b=U')∧a.tmps[t]? = some (.bool b)∧∃s,look st.sl t=some s∧s.rg=st.rg∧s.g=[]
theorem Db{ops:Array Oper}{st:St}{o:Oper}(h:RI C nt w0 UM st ρ a W):(IZ ops.toList st.rg st.sl o).Ok ops a st o:=by
 unfold IZ;split;trivial;rename_i j U' hg;split;trivial;rename_i oj hj;split;trivial;rename_i t ht;split;trivial;rename_i Yc sk sg v hs;split
 rotate_left
 trivial;rename_i hr hk;have hr:=Nb hr;have hw:=eN (a:=a) hg hj ht;split;obtain⟨x,h1,h2⟩:=(h.ins t _ hs hr).1 (holds_nil a);split;rename_i b;obtain rfl:x=.bool b:=h1;split;rename_i hb;exact hw.2 (by rw[h2,eq_of_beq hb]);rename_i hb;have UR:¬a.tmps[t]? = some (.bool U'):=λe=>(by rw[h2] at e;injection e with e;injection e with e;rw[e] at hb;simp at hb);refine⟨λc=>UR (hw.1 c),λc=>UR (c (t,U') Um),λp hp=>?_⟩;obtain rfl:p=(t,U'):=(by simpa using hp);exact⟨_,hs,hr⟩;rename_i b;obtain rfl:x=.bool b:=h1;refine⟨⟨λc=>?_,λc=>hw.2 (by rw[h2,c])⟩,h2,_,hs,hr,rfl⟩;have:=hw.1 c;rw[h2] at this;injection this with e;injection e with e;trivial;rename_i t' pol' g';split;rename_i b hb;split;trivial;rename_i UR;obtain⟨k1,s',k2,k3⟩:=I0 h hb;have hn:∀g:List (Nat×Bool),(t',pol')∈g->¬holds a g:=λg hg c=>(by have:=c _ hg;rw[k1] at this;injection this with e;injection e with e;rw[e] at UR;simp at UR);have hu:=(h.ins t _ hs hr).2 (hn _ Um);refine⟨λc=>?_,hn _ Um,λp hp=>?_⟩;have:=hw.1 c;rw[hu] at this;simp[undef] at this;obtain rfl:p=(t',pol'):=(by simpa using hp);exact⟨s',k2,k3⟩;trivial
theorem Nz{P:Program}{co:Bool}{o:Oper}{K:Act->World->Prop} : cR P co (bare o) a W K=cR P co o a W K:=by obtain⟨dst,op,ty,pos,after,guard⟩:=o;rfl
theorem vc{k:Nat}{g:List (Nat×Bool)}{o:Oper}{st:St}{M:St->Prop}(h:RI C nt w0 UM st ρ a W)(he:wR nt k g o st M)(hn:¬holds a g)(YR:∀p∈g,∃s',look st.sl p.1=some s'∧s'.rg=st.rg)
  {K:Act->World->Prop} (hK:∀UZ UL a' W',M UZ->RI C nt w0 UM UZ UL a' W'->K a' W'):K (a.put o.dst undef) W:=by
 obtain⟨sl,H,nm,rg,rd,ws⟩:=st;simp only[wR] at he;split at he
 ·rename_i hd;simp only[iP] at he;refine hK _ ρ _ W he ?_;obtain⟨d1,d2⟩:=kR hd;have We:∀dd:Option Nat,Base C nt w0 UM H nm ρ (a.put dd undef) W:=λdd=>h.base.same (Gr.refl W);cases ho:o.dst with
  | none=>exact⟨We none,h.rgs,h.out,h.ins,h.cl⟩
  | some d=>
   obtain⟨Wl,WX⟩:=d2 d ho;have Y3:d<a.tmps.size:=(by rw[h.base.sz];exact Wl);refine h.put (.refl _) WX YR ⟨λhh=>Up ?_ hn,λ_=>fX Y3⟩ (We (some d));intro p hp;obtain⟨s',k1,k2⟩:=YR p hp;have UR:d≠p.1:=λe=>iS WX (by rw[e];exact k1) k2;rw[<-cr UR (x:=undef)];exact hh p hp
 cases he
theorem RI.lit{sl:List (Nat×Slot)}{H:aY}{nm rg j t:Nat}{rd ws:List (Nat×Nat)}{b:Bool}{s:Slot}(h:RI C nt w0 UM ⟨sl,H,nm,rg,rd,ws⟩ ρ a W)(hs:look sl t=some s)(hr:s.rg=rg)(hb:a.tmps[t]? = some (.bool b)) :
  RI C nt w0 UM ⟨(t,⟨rg,j,[],.bl b⟩)::sl,H,nm,rg,rd,ws⟩ ρ a W:=by
 have Xr:∀t',(∃s',look sl t'=some s'∧s'.rg=rg)->∃s',look ((t,(⟨rg,j,[],.bl b⟩:Slot))::sl) t'=some s'∧s'.rg=rg:=λt' ⟨s',k1,k2⟩=>by by_cases e:t=t';subst e;exact⟨_,af _ _ _,rfl⟩;exact⟨s',by rw[ab _ _ e];exact k1,k2⟩
 refine⟨h.base,λt' s' Wp=>?_,λt' s' Wp VC hg=>?_,λt' s' Wp VC=>?_,λt' s' Wp VC p hp=>?_⟩;by_cases e:t=t';subst e;rw[af] at Wp;obtain rfl:=Oi Wp;exact I' _;rw[ab _ _ e] at Wp;exact h.rgs t' s' Wp;by_cases e:t=t';subst e;rw[af] at Wp;obtain rfl:=Oi Wp;exact Up rfl VC;rw[ab _ _ e] at Wp;exact h.out t' s' Wp VC hg;by_cases e:t=t';subst e;rw[af] at Wp;obtain rfl:=Oi Wp;exact⟨λ_=>⟨_,rfl,hb⟩,λhn=>Up (holds_nil _) hn⟩;rw[ab _ _ e] at Wp;exact h.ins t' s' Wp VC;refine Xr p.1 ?_;by_cases e:t=t';subst e;rw[af] at Wp;obtain rfl:=Oi Wp;cases hp;rw[ab _ _ e] at Wp;exact h.cl t' s' Wp VC p hp
theorem lX{a:Act}{t:Nat}{U':Bool}(hb:a.tmps[t]? = some (.bool U')):∀{g:List (Nat×Bool)},holds a (kY t U' g)↔holds a g
 | []=>Iff.rfl
 | (t',p')::r=>by
  have ih:=lX hb (g:=r);simp only[kY];split
  ·rename_i h1 h2;obtain rfl:=Nb h1;have h2:p'=U':=(by cases p'<;>cases U'<;>first|rfl|cases h2);subst h2;rw[ih];exact⟨λh p hp=>by
    rcases UB.1 hp with rfl|hp;exact hb
    ·exact h p hp,λh p hp=>h p (Ux _ hp)⟩
  constructor;intro h p hp;rcases UB.1 hp with rfl|hp;exact h _ Um;exact(ih.1 λq hq=>h q (Ux _ hq)) p hp;intro h p hp;rcases UB.1 hp with rfl|hp;exact h _ Um;exact(ih.2 λq hq=>h q (Ux _ hq)) p hp
theorem pG{t:Nat}{U':Bool} : ∀{g:List (Nat×Bool)} {p:Nat×Bool},p∈kY t U' g->p∈g
 | [],p,h=>h
 | (t',p')::r,p,h=>by simp only[kY] at h;split at h;exact Ux _ (pG h);rcases UB.1 h with rfl|h;exact Um;exact Ux _ (pG h)
theorem Es(rg t:Nat)(U':Bool)(n:Nat)(s:Slot):∃s',ju rg t U' (n,s)=(n,s')∧s'.rg=s.rg∧s'.v=s.v∧(s'.g=s.g∨s.rg=rg∧s'.g=kY t U' s.g):=by obtain⟨Yc,k,g,v⟩:=s;simp only[ju];split;exact⟨_,rfl,rfl,rfl,.inl rfl⟩;split;exact⟨_,rfl,rfl,rfl,.inl rfl⟩;rename_i hr;exact⟨_,rfl,rfl,rfl,.inr ⟨Nb hr,rfl⟩⟩
theorem rG(rg t:Nat)(U':Bool)(n:Nat):∀(l:List (Nat×Slot)),(look l n=none∧look (l.map (ju rg t U')) n=none)∨∃s s',look l n=some s∧look (l.map (ju rg t U')) n=some s'∧s'.rg=s.rg∧s'.v=s.v∧(s'.g=s.g∨s.rg=rg∧s'.g=kY t U' s.g)
 | []=>.inl ⟨rfl,rfl⟩
 | (m,s)::r=>by obtain⟨s',e,h1,h2,h3⟩:=Es rg t U' m s;rw[List.map_cons,e];by_cases hm:m=n;subst hm;exact .inr ⟨s,s',af _ _ _,af _ _ _,h1,h2,h3⟩;rw[ab _ _ hm,ab _ _ hm];exact rG rg t U' n r
theorem ni(rg t:Nat)(U':Bool)(n:Nat){l l':List (Nat×Slot)}(h:nX rg t U' l=some l'):(look l n=none∧look l' n=none)∨∃s s',look l n=some s∧look l' n=some s'∧s'.rg=s.rg∧s'.v=s.v∧(s'.g=s.g∨s.rg=rg∧s'.g=kY t U' s.g):=by rw[G5 h];exact rG rg t U' n l
theorem RI.strip{sl Xj:List (Nat×Slot)}{H:aY}{nm rg t:Nat}{rd ws:List (Nat×Nat)}{U':Bool}(h:RI C nt w0 UM ⟨sl,H,nm,rg,rd,ws⟩ ρ a W)(hb:a.tmps[t]? = some (.bool U'))(hu:nX rg t U' sl=some Xj) :
  RI C nt w0 UM ⟨Xj,H,nm,rg,rd,ws⟩ ρ a W:=by
 have key:∀{n:Nat} {s':Slot},look Xj n=some s'->∃s,look sl n=some s∧s'.rg=s.rg∧s'.v=s.v∧(s'.g=s.g∨s.rg=rg∧s'.g=kY t U' s.g):=λ{n s'} hs=>by
  rcases ni rg t U' n hu with ⟨-,h2⟩|⟨s,s'',k1,k2,k3⟩
  rw[h2] at hs;cases hs;rw[k2] at hs;obtain rfl:=Oi hs;exact⟨s,k1,k3⟩
 refine⟨h.base,λn s' hs=>?_,λn s' hs hr hg=>?_,λn s' hs hr=>?_,λn s' hs hr p hp=>?_⟩;obtain⟨s,k1,k2,-⟩:=key hs;rw[k2];exact h.rgs n s k1
 ·obtain⟨s,k1,k2,k3,k4⟩:=key hs;rw[k3];rcases k4 with k4|⟨k4,-⟩
  exact h.out n s k1 (by rw[<-k2];exact hr) (by rw[<-k4];exact hg);exact Up (k2.trans k4) hr
 ·obtain⟨s,k1,k2,k3,k4⟩:=key hs;have hn:=h.ins n s k1 (k2.symm.trans hr);rw[k3];rcases k4 with k4|⟨-,k4⟩
  rw[k4];exact hn;rw[k4];exact⟨λhh=>hn.1 ((lX hb).1 hh),λhh=>hn.2 λc=>hh ((lX hb).2 c)⟩
 obtain⟨s,k1,k2,-,k4⟩:=key hs;have hp':p∈s.g:=by
  rcases k4 with k4|⟨-,k4⟩
  rw[<-k4];exact hp;rw[k4] at hp;exact pG hp
 obtain⟨s0,q1,q2⟩:=h.cl n s k1 (k2.symm.trans hr) p hp';rcases ni rg t U' p.1 hu with ⟨h2,-⟩|⟨s1,s2,r1,r2,r3,-⟩
 rw[q1] at h2;cases h2;rw[q1] at r1;obtain rfl:=Oi r1;exact⟨s2,r2,r3.trans q2⟩
theorem Jk{ops:Array Oper}(hI:eu C I){sp:Bool}{k:Nat}{o:Oper}{st:St}{M:St->Prop}(h:RI C nt w0 UM st ρ a W)(he:evG Γ nt I inls ops.toList sp k o st M)
  {K:Act->World->Prop} (hK:∀UZ UL a' W',M UZ->RI C nt w0 UM UZ UL a' W'->K a' W') :
  if Region.wanted o (yielded ops a.tmps)=true then cR C.P C.co o a W K else K (a.put o.dst undef) W:=by
 obtain⟨sl,H,nm,rg,rd,ws⟩:=st;have hb:∀st ρ,RI C nt w0 UM st ρ a W->wU Γ nt I inls ops.toList k (bare o) st M->cR C.P C.co o a W K:=λst ρ h he=>by have:=wT hI h he hK;rw[Uw (dT rfl),Nz] at this;exact this
 cases sp with
 | false=>exact wT hI h he hK
 | true=>
  simp only[evG] at he;have hd:=Db (ops:=ops) (o:=o) h;have hd:(IZ ops.toList rg sl o).Ok ops a ⟨sl,H,nm,rg,rd,ws⟩ o:=hd;split at he;exact wT hI h he hK;rename_i heq;rw[heq] at hd;replace hd:Region.wanted o (yielded ops a.tmps)=true:=hd;rw[Uw hd];exact hb _ _ h he;rename_i g heq;rw[heq] at hd;rw[Uv hd.1];exact vc h he hd.2.1 hd.2.2 hK;rename_i t j U' b heq;rw[heq] at hd;obtain⟨d1,d2,s,d3,d4,d5⟩:=hd;simp only[iP] at he;by_cases e:b=U';rw[Uw (d1.2 e)];have he:=he.1 e;split at he;rename_i Yv hu;have hu:nX rg t U' ((t,⟨rg,j,[],.bl U'⟩)::sl)=some Yv:=hu;have d2':a.tmps[t]? = some (.bool U'):=(by rw[<-e];exact d2);exact hb _ _ ((h.lit (j:=j) d3 d4 (b:=U') d2').strip d2' hu) he;exact he.elim;have e2:b = !U':=(by cases b<;>cases U'<;>first|rfl|exact Up rfl e);rw[Uv λc=>e (d1.1 c)];have he:=he.2 e2;split at he
  rotate_left
  exact he.elim;rename_i Yv hu;have hu:nX rg t (!U') ((t,⟨rg,j,[],.bl (!U')⟩)::sl)=some Yv:=hu;have d2':a.tmps[t]? = some (.bool (!U')):=(by rw[<-e2];exact d2);refine vc ((h.lit d3 d4 (b:=!U') (j:=j) d2').strip d2' hu) he (λc=>?_) (λp hp=>?_) hK;have:=c (t,U') Um;rw[d2,e2] at this;cases U'<;>cases this;obtain rfl:p=(t,U'):=(by simpa using hp);rcases ni rg t (!U') t hu with ⟨h2,-⟩|⟨s1,s2,r1,r2,r3,-⟩
  rw[af] at h2;cases h2;rw[af] at r1;obtain rfl:=Oi r1;exact⟨s2,r2,r3⟩
theorem RI.later{st:St}{W1:World}(h:RI C nt w0 UM st ρ a W)(r:Rv W W1):RI C nt w0 UM st ρ a W1:=
 ⟨h.base.same (dst:=none) (x:=undef) ⟨r.os,r.tape,r.output,r.size,λb hb=>r.same hb⟩,h.rgs,h.out,h.ins,h.cl⟩
theorem P3{ops:Array Oper}{st:St}{o:Oper}{f k:Nat}{al:List SV}{K:SV->aY->Nat->Prop}(hI:eu C I)(h:RI C nt w0 UM st ρ a W)(hs:yJ inls nt ops.toList st o=some (f,al))(he:I f al st.H st.nm K):NS C.P (execOp a.eval o):=by
 obtain⟨dst,oo,ty,pos,after,guard⟩:=o;unfold yJ at hs;split at hs
 ·rename_i c Z3;obtain rfl:oo=.call c:=Z3;split at hs
  ·rename_i x WI;split at hs
   ·rename_i sf hg hsf Yz;split at hs
    ·rename_i g first captured args YR U7
     split at hs;split at hs;rename_i Zc YS;obtain⟨rfl,rfl⟩:=P' (Oi hs);have UQ:=mc (heads:=ops.toList) (k:=0) (o:=⟨dst,.call c,ty,pos,after,guard⟩) h (holds_nil a);obtain⟨fv,cv,XI,-⟩:=mE UQ hsf YR U7;exact oi WI XI (hI _ _ _ _ _ he).2.1;cases hs;cases hs
    cases hs
   cases hs
  cases hs
 cases hs
theorem PE{ops:Array Oper}{st:St}{o:Oper}{n:Nat}{neg:Bool}(h:RI C nt w0 UM st ρ a W)(hs:yl C nt ops.toList st o=some (n,neg)):NS C.P (execOp a.eval o):=by
 obtain⟨dst,oo,ty,pos,after,guard⟩:=o;unfold yl at hs;split at hs
 ·rename_i b t x y yt Z3;obtain rfl:oo=.binOp b t x y yt:=Z3;split at hs
  ·rename_i ng el hng YQ hg Yz;split at hs
   ·rename_i u v hu hv;split at hs;rename_i hv1 Z0;have UQ:=mc (heads:=ops.toList) (k:=0) (o:=⟨dst,.binOp b t x y yt,ty,pos,after,guard⟩) h (holds_nil a);obtain⟨ad,l,c,e1,-⟩:=uM Z0 (UQ.get hu);have e2:=uR hv1 (UQ.get hv);have key:NS C.P (binOp b t (a.eval x) (a.eval y))->NS C.P (execOp a.eval ⟨dst,.binOp b t x y yt,ty,pos,after,guard⟩):=λk=>aa (aa (nF _ _ _ _ _ _) λ_=>k) λ_=>trivial;refine key ?_;rw[e1,e2];cases b<;>first|exact aa (v9 _ _ _ _ _) λ_=>trivial|cases hng
    cases hs
   cases hs
  cases hs
 cases hs
theorem ri{ops:Array Oper}(hI:eu C I){k:Nat}{o:Oper}{st:St}{M:St->Prop}(h:RI C nt w0 UM st ρ a W)(he:wU Γ nt I inls ops.toList k o st M)(hw:Region.wanted o (yielded ops a.tmps)=true):NS C.P (execOp a.eval o):=by obtain⟨sl,H,nm,rg,rd,ws⟩:=st;simp only[wU] at he;split at he;rename_i hs;simp only[iP,fN] at he;exact P3 (k:=k) hI h hs he;split at he;rename_i n neg hs;exact PE h hs;split at he;cases he;rename_i UZ ob hs;exact Lc h hs hw
theorem Qn{ops:Array Oper}(hI:eu C I){sp:Bool}{k:Nat}{o:Oper}{st:St}{M:St->Prop}(h:RI C nt w0 UM st ρ a W)(he:evG Γ nt I inls ops.toList sp k o st M)(hw:Region.wanted o (yielded ops a.tmps)=true):NS C.P (execOp a.eval o):=by
 obtain⟨sl,H,nm,rg,rd,ws⟩:=st;cases sp with
 | false=>exact ri hI h he hw
 | true=>
  simp only[evG] at he;have hd:=Db (ops:=ops) (o:=o) h;have hd:(IZ ops.toList rg sl o).Ok ops a ⟨sl,H,nm,rg,rd,ws⟩ o:=hd;split at he;exact ri hI h he hw;exact ri (o:=bare o) hI h he (dT rfl);rename_i g heq;rw[heq] at hd;exact Up hw hd.1;rename_i t j U' b heq;rw[heq] at hd;obtain⟨d1,d2,s,d3,d4,d5⟩:=hd;simp only[iP] at he;have e:=d1.1 hw;have he:=he.1 e;split at he;rename_i Yv hu;have hu:nX rg t U' ((t,⟨rg,j,[],.bl U'⟩)::sl)=some Yv:=hu;have d2':a.tmps[t]? = some (.bool U'):=(by rw[<-e];exact d2);exact ri (o:=bare o) hI ((h.lit (j:=j) d3 d4 (b:=U') d2').strip d2' hu) he (dT rfl);exact he.elim
theorem Qm{ops:Array Oper}(hI:eu C I){sp:Bool}{k:Nat}{o:Oper}{st:St}{M:St->Prop}(h:RI C nt w0 UM st ρ a W)(he:evG Γ nt I inls ops.toList sp k o st M)
  {K:Act->World->Prop} (hK:∀UZ UL a' W',M UZ->RI C nt w0 UM UZ UL a' W'->K a' W') :
  if Region.wanted o (yielded ops a.tmps)=true then OpJ C.P C.co o a W K else K (a.put o.dst undef) W:=by
 have h0:=Jk hI h he hK;split;rename_i hw;refine⟨Qn hI h he hw,λW1 r=>?_⟩;have h1:=Jk hI (h.later r) he hK;rw[Uw hw] at h1;exact h1;rename_i hw;rw[Uv hw] at h0;exact h0
theorem lU{ops:Array Oper}{sp:Bool}{Q:Exit->Act->World->Prop}(hI:eu C I){K:St->Prop}(hQ:∀st ρ a W,K st->RI C nt w0 UM st ρ a W->Q .normal a W) :
  ∀(r:List Oper) (k:Nat) (st:St) (ρ:Names) (a:Act) (W:World),RI C nt w0 UM st ρ a W->sX Γ nt I inls ops.toList sp k r st K->cz C.P C.co ops Q r a W
 | [],k,st,ρ,a,W,h,he=>hQ st ρ a W he h
 | o::r,k,st,ρ,a,W,h,he=>by simp only[sX,kK] at he;refine vw λK' ZP=>?_;exact Qm hI h he λUZ UL a' W' hM h'=>ZP _ _ (lU hI hQ r (k+1) UZ UL a' W' h' hM)
def LW(_:Oper):Bool:=true
theorem zj{ops:Array Oper}{full:Nat}{sp draw:Bool}{id:Nat}{Q:Exit->Act->World->Prop}{st:St}{K:St->Prop}(hI:eu C I)(hm:C.P.follows .mixedOrders=true)(hB0:Ct full ops draw=true)(h:Rp C nt w0 UM st ρ a W)(he:oB Γ nt I inls full sp ops draw st K)
  (hQ:∀st ρ a W,K st->Rp C nt w0 UM st ρ a W->Q .normal a W):wpR C.P C.co (.region id ops draw) Q a W:=by
 obtain⟨sl,H,nm,rg,rd,ws⟩:=st;have hi:=h.enter;have hQ':∀st ρ a W,K st->RI C nt w0 UM st ρ a W->Q .normal a W:=λst ρ a W hk hr=>hQ st ρ a W hk hr.leave;cases draw with
 | false=>
  simp only[oB,kK] at he;exact kV (lU hI hQ' _ _ _ _ _ _ hi he)
 | true=>
  unfold oB at he;simp only[kK] at he;have hB:jO ops (gg full ops.toList)=true:=hB0;clear hB0;rw[nZ] at he;have hle:gg full ops.toList<=ops.toList.length:=by
   generalize ops.toList=l
   induction l with
   | nil=>simp[gg]
   | cons o r ih=>simp only[gg];split<;>simp<;>omega
  generalize gg full ops.toList=n at he hB hle;have hlen:(ops.toList.take n).length=n:=(by rw[List.length_take];omega);obtain⟨UU,hK⟩:=sY _ (l:=ops.toList.take n) (st0:=⟨sl,H,nm,rg+1,[],[]⟩) (ops.toList.take n) 0 (λj=>by simp) (by simp) he;have F:cH Γ nt ops.toList (ops.toList.take n) ⟨sl,H,nm,rg+1,[],[]⟩ (oS (gS Γ nt true ops.toList (ops.toList.take n)) (ops.toList.take n) ⟨sl,H,nm,rg+1,[],[]⟩):=
   ⟨rfl,λi o ho=>UU i o (Ui _) ho,λt s hs=>by
    have:s.rg<=rg:=h.rgs t s hs;show s.rg≠rg+1;omega,λi o ho=>by
    have hl:i<n:=by have:=(J'.1 ho).1;omega
    rwa [Uy hl] at ho⟩
  refine ln hm λW1 r1=>?_;have hid:=hi.later r1;refine nu (n:=n) hB (λlisted a' W'=>∃UL,HI C nt w0 UM (ops.toList.take n) ⟨sl,H,nm,rg+1,[],[]⟩ (oS (gS Γ nt true ops.toList (ops.toList.take n)) (ops.toList.take n) ⟨sl,H,nm,rg+1,[],[]⟩) ρ a listed UL a' W')
   ⟨ρ,sG F hid (λi=>getD_replicate_false _ i)⟩ ?_ ?_
  intro listed a' W' i o inv hI' Xr ho hu U0 K' ZP;have Zk:(ops.toList.take n)[i]? = some o:=(by rw[Uy Xr];simpa using ho);exact C9 F hlen hid listed a' W' i o inv hI' Xr ho Zk hu U0 K' ZP;intro listed a' W' ⟨UL,hI'⟩ U1;exact lU hI hQ' _ _ _ UL a' W' (uW F hid hI' (by rw[hlen];exact U1)) hK
end
end Go.Proofs.YtgigkennhdolpaaGreatDoor
