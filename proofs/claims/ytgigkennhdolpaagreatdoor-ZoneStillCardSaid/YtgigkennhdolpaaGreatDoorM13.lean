/- A symbolic executor with lists, 16. -/
import Derived.Test.YtgigkennhdolpaaGreatDoorM12
import Derived.RangeFuncCalls
import Derived.RangeFuncFrom
import Derived.RangeFuncLeaves
import Derived.OrdersIn
import Derived.TacticsIn
namespace Go.Proofs.YtgigkennhdolpaaGreatDoor
open Go.RowKit
section
variable {PP:Program}{C:Cx PP}{Γ:List (UW C)}{nt:Nat}{ops:Array Oper}{heads:List Oper}{st0:St}{S:Nat->St}{w0:World}{UT:Names}{V1:Names}{a0:Act}{W1:World}
theorem va(F:cJ Γ nt ops.toList heads st0 S)(h0:RI C nt w0 UT st0 V1 a0 W1){listed:Array Bool}{ρ:Names}{a:Act}{W:World}(h:HI C nt w0 UT heads st0 S V1 a0 listed ρ a W)
  (Vb:∀i,i<heads.length->listed.getD i false=true):RI C nt w0 UT (S heads.length) ρ a W:=by
 have hrg:=F.rg heads.length (I' _);have hk:∀t s,look (S heads.length).sl t=some s->s.rg=st0.rg->listed.getD s.k false=true:=λt s hs hr=>Vb s.k (F.ins _ (I' _) t s hs hr).1;refine⟨⟨h.mem,λn sb hn=>?_,h.sz,h.df⟩,λt s hs=>?_,λt s hs hr hg=>?_,λt s hs hr=>?_,λt s hs hr p hp=>?_⟩
 ·rcases F.heap _ (I' _) n sb hn with ⟨h1,h2⟩|⟨j,hj,hwj,h3⟩
  exact h.con n sb h1 λi VC hi hwi=>Uw hwi (h2 i VC hi);exact h.wr j n sb hj (Vb j hj) hwj λj' VC h1 h2 h4=>Uw h4 (h3 j' VC h1 h2)
 by_cases hr:s.rg=st0.rg;omega;have:=h0.rgs t s (F.out _ (I' _) t s hs hr);omega;rw[hrg] at hr;have Yg:=F.out _ (I' _) t s hs hr;obtain⟨y,h1,h2⟩:=h0.out t s Yg hr hg;refine⟨y,bM h.le _ _ h1,?_⟩;rw[h.out t ?_];exact h2;intro i o hi hd;exfalso;obtain⟨g,r,-,e,-⟩:=F.own hi hd;rw[hs] at e;rw[Oi e] at hr;exact hr rfl;rw[hrg] at hr;exact h.ins t s hs hr (hk t s hs hr);rw[hrg] at hr;obtain⟨s',q1,q2,-⟩:=F.atoms (md:=ops) (n:=heads.length) rfl s.k t s rfl hs hr p hp;exact⟨s',q1,by rw[hrg];exact q2⟩
theorem sT(F:cJ Γ nt ops.toList heads st0 S)(h0:RI C nt w0 UT st0 V1 a0 W1){listed:Array Bool}(hl:∀i,listed.getD i false=false):HI C nt w0 UT heads st0 S V1 a0 listed V1 a0 W1:=by
 have g:Gr W1 W1:=Gr.refl W1;have h1:=F.nm (i:=0) (j:=heads.length) (by omega) (I' _);rw[F.s0] at h1;exact⟨(h0.base.mem.gr g).up h1,.refl _,λm b hm=>.inl (h0.base.mem.dom m b hm),λm b hm=>.inl (h0.base.mem.domv m b hm).1,λm sb hm _=>(h0.base.Vg.gr g).blk m sb hm,
  (λi m sb _ h=>by rw[hl] at h;cases h),(λt s _ _ h=>by rw[hl] at h;cases h),λt _=>rfl,h0.base.sz,h0.base.df⟩
end
def qM(n:Nat):List Nat->Bool
 | []=>false
 | m::r=>match Nat.beq m n with|true=>true|false=>qM n r
abbrev Yj:=Nat->List SV->bc->Nat->(SV->bc->Nat->Prop)->Prop
def eP{PP:Program}(C:Cx PP)(I:Yj):Prop:=
 ∀f args H nm K,I f args H nm K->(∀(a:Array Value) (w:World),(callFunc f a).run C.P w=.ok (.enter f a) w)∧(∀a:Array Value,NS C.P (callFunc f a))∧∀(ρ:Names) (W:World) (vs:List Value),VY C H ρ W->(∀n b,ρ.n n=some b->n<nm)->(∀e l,ρ.v e=some l->e<nm∧l.o<nm)->(∀m i l,ρ.k m i=some l->m<nm)->ao ρ args vs->
  bx C.P C.co f vs.toArray W λe W'=>∃v val H' VE US,e=.returned val∧K v H' VE∧Mem C W ρ.VK VE US W'∧(∀n sb,look H' n=some sb->c8 US W' n sb)∧den US v val
def yS(inls:List Nat)(nt:Nat)(ops:List Oper)(st:St)(o:Oper):Option (Nat×List SV):=
 match o.op with
 | .call c=>match c.callee with
  | .value x=>match guardOf false ops st.rg st.sl o,mV false ops 0 st.rg st.sl o [] [] x,zJ nt st.rg st.sl o with
   | some [],some sf,true=>match callee sf,YZ (mV false ops 0 st.rg st.sl o []) c.args.toList with
    | some (g,first,captured),some args=>match qM g inls with
     | true=>match laid (first++args++captured) with|some al=>some (g,al)|none=>none
     | false=>none
    | _,_=>none
   | _,_,_=>none
  | _=>none
 | _=>none
def Bt:SV->Option Nat
 | .kd _ _ _ _ n=>some n
 | .e=>some 0
 | .rs _ n _=>some n
 | .g _ _ _ _ n=>some n
 | _=>none
def O8:BinOp->Option Bool
 | .eql=>some false
 | .neq=>some true
 | _=>none
def BF:SV->Bool
 | .v (.slice none 0 0)=>true
 | _=>false
def yz{PP:Program}(C:Cx PP)(nt:Nat)(ops:List Oper)(st:St)(o:Oper):Option (Nat×Bool):=
 match o.op with
 | .binOp b t x y _=>match O8 b,iu C t,guardOf false ops st.rg st.sl o,zJ nt st.rg st.sl o with
  | some neg,some _,some [],true=>match mV false ops 0 st.rg st.sl o [] [] x,mV false ops 0 st.rg st.sl o [] [] y with
   | some u,some v=>match BF v,Bt u with|true,some n=>some (n,neg)|_,_=>none
   | _,_=>none
  | _,_,_,_=>none
 | _=>none
def w6{PP:Program}{C:Cx PP}(Γ:List (UW C))(nt:Nat)(I:Yj)(inls:List Nat)(ops:List Oper)(k:Nat)(o:Oper):St->(St->Prop)->Prop
 | ⟨sl,H,nm,rg,rd,ws⟩,M=>match yS inls nt ops ⟨sl,H,nm,rg,rd,ws⟩ o with
  | some (f,al)=>match kW al with|.mk Zk=>(I f Zk H nm λv H nm=>match qp rg k [] v o.dst sl with|.mk Xr=>M ⟨Xr,H,nm,rg,rd,ws⟩|.no=>False)|.no=>False
  | none=>match yz C nt ops ⟨sl,H,nm,rg,rd,ws⟩ o with
   | some (n,neg)=>∀b:Bool,(b=true->n=0)->match qp rg k [] (.v (.bool (b != neg))) o.dst sl with|.mk Xr=>M ⟨Xr,H,nm,rg,rd,ws⟩|.no=>False
   | none=>match iA Γ nt false ops ops k o ⟨sl,H,nm,rg,rd,ws⟩ with
    | none=>False
    | some (Vd,ob)=>Ro ob (M Vd)
inductive GD where
 | plain
 | go (t:Nat)
 | skip (g:List (Nat×Bool))
 | both (t j:Nat) (Vj b:Bool)
def Jz(rg:Nat)(sl:List (Nat×Slot))(t:Nat):Option Bool:=
 match look sl t with
 | none=>none
 | some ⟨Yl,_,sg,v⟩=>match Nat.beq Yl rg,sg,v with
  | true,[],.bl b=>some b
  | _,_,_=>none
def Jx(ops:List Oper)(rg:Nat)(sl:List (Nat×Slot))(o:Oper):GD:=
 match o.guard with
 | none=>.plain
 | some (j,Vj)=>match ops[j]? with
  | none=>.plain
  | some oj=>match oj.dst with
   | none=>.plain
   | some t=>match look sl t with
    | none=>.plain
    | some ⟨Yl,sk,sg,v⟩=>match Nat.beq Yl rg,Nat.beq sk j with
     | true,true=>match sg with
      | []=>match v with
       | .bl b=>match b==Vj with|true=>.go t|false=>.skip [(t,Vj)]
       | .v (.bool b)=>.both t j Vj b
       | _=>.plain
      | (t',pol')::_=>match Jz rg sl t' with
       | some b=>match b==pol' with|true=>.plain|false=>.skip [(t',pol')]
       | none=>.plain
     | _,_=>.plain
def bare(o:Oper):Oper:=⟨o.dst,o.op,o.type,o.pos,o.after,none⟩
def wZ(nt:Nat)(k:Nat)(g:List (Nat×Bool))(o:Oper):St->(St->Prop)->Prop
 | ⟨sl,H,nm,rg,rd,ws⟩,M=>match zJ nt rg sl o with
  | true=>match qp rg k g (.bl false) o.dst sl with|.mk Xr=>M ⟨Xr,H,nm,rg,rd,ws⟩|.no=>False
  | false=>False
def lx(t:Nat)(Vj:Bool):List (Nat×Bool)->List (Nat×Bool)
 | []=>[]
 | (t',p')::r=>match Nat.beq t' t,H4 p' Vj with|true,true=>lx t Vj r|_,_=>(t',p')::lx t Vj r
def jM(rg t:Nat)(Vj:Bool):Nat×Slot->Nat×Slot
 | (n,⟨Yl,k,g,v⟩)=>match g with
  | []=>(n,⟨Yl,k,[],v⟩)
  | x::g'=>match Nat.beq Yl rg with
   | false=>(n,⟨Yl,k,x::g',v⟩)
   | true=>(n,⟨Yl,k,lx t Vj (x::g'),v⟩)
def AR(rg t:Nat)(Vj:Bool):List (Nat×Slot)->List (Nat×Slot)->Option (List (Nat×Slot))
 | [],acc=>some acc
 | (n,⟨Yl,k,g,v⟩)::r,acc=>match g with
  | []=>AR rg t Vj r ((n,⟨Yl,k,[],v⟩)::acc)
  | x::g'=>match Nat.beq Yl rg with
   | false=>AR rg t Vj r ((n,⟨Yl,k,x::g',v⟩)::acc)
   | true=>match laid (lx t Vj (x::g')) with
    | some g''=>AR rg t Vj r ((n,⟨Yl,k,g'',v⟩)::acc)
    | none=>none
def PH{α:Type} : List α->List α->Option (List α)
 | [],acc=>some acc
 | x::r,acc=>PH r (x::acc)
def nZ(rg t:Nat)(Vj:Bool)(l:List (Nat×Slot)):Option (List (Nat×Slot)):=match AR rg t Vj l [] with|some l'=>PH l' []|none=>none
theorem CV{rg t:Nat}{Vj:Bool} : ∀{l acc o:List (Nat×Slot)},AR rg t Vj l acc=some o->o=(l.map (jM rg t Vj)).reverse++acc
 | [],acc,o,h=>by obtain rfl:=Oi h;rfl
 | (n,⟨Yl,k,g,v⟩)::r,acc,o,h=>by simp only[AR] at h;have key:∀x,AR rg t Vj r (x::acc)=some o->x=jM rg t Vj (n,⟨Yl,k,g,v⟩)->o=(((n,⟨Yl,k,g,v⟩)::r).map (jM rg t Vj)).reverse++acc:=λx hx e=>(by rw[CV hx,e];simp);split at h;exact key _ h rfl;split at h;rename_i hr;exact key _ h (by simp only[jM,hr]);rename_i hr;split at h;rename_i g'' hl;refine key _ h ?_;rw[dI hl];simp only[jM,hr];cases h
theorem C4{α:Type} : ∀{l acc o:List α},PH l acc=some o->o=l.reverse++acc
 | [],acc,o,h=>by obtain rfl:=Oi h;rfl
 | x::r,acc,o,h=>by rw[C4 (l:=r) h];simp
theorem HF{rg t:Nat}{Vj:Bool}{l o:List (Nat×Slot)}(h:nZ rg t Vj l=some o):o=l.map (jM rg t Vj):=by unfold nZ at h;split at h;rename_i l' hl;rw[C4 h,CV hl];simp;cases h
def evG{PP:Program}{C:Cx PP}(Γ:List (UW C))(nt:Nat)(I:Yj)(inls:List Nat)(ops:List Oper)(sp:Bool)(k:Nat)(o:Oper):St->(St->Prop)->Prop
 | ⟨sl,H,nm,rg,rd,ws⟩,M=>match sp with
  | false=>w6 Γ nt I inls ops k o ⟨sl,H,nm,rg,rd,ws⟩ M
  | true=>match Jx ops rg sl o with
   | .plain=>w6 Γ nt I inls ops k o ⟨sl,H,nm,rg,rd,ws⟩ M
   | .go _=>w6 Γ nt I inls ops k (bare o) ⟨sl,H,nm,rg,rd,ws⟩ M
   | .skip g=>wZ nt k g o ⟨sl,H,nm,rg,rd,ws⟩ M
   | .both t j Vj b=>
    (b=Vj->match qp rg j [] (.bl Vj) (some t) sl with|.mk Xr=>(match nZ rg t Vj Xr with|some Yz=>w6 Γ nt I inls ops k (bare o) ⟨Yz,H,nm,rg,rd,ws⟩ M|none=>False)|.no=>False) ∧
    (b = !Vj->match qp rg j [] (.bl (!Vj)) (some t) sl with|.mk Xr=>(match nZ rg t (!Vj) Xr with|some Yz=>wZ nt k [(t,Vj)] o ⟨Yz,H,nm,rg,rd,ws⟩ M|none=>False)|.no=>False)
def tl{PP:Program}{C:Cx PP}(Γ:List (UW C))(nt:Nat)(I:Yj)(inls:List Nat)(ops:List Oper)(sp:Bool):Nat->List Oper->St->(St->Prop)->Prop
 | _,[],st,K=>K st
 | k,o::r,st,K=>match yT k with
  | .mk k'=>evG Γ nt I inls ops sp k o st λVd=>tl Γ nt I inls ops sp k' r Vd K
  | .no=>False
def Pc(fl:List Nat)(id:Nat):Nat:=match qM id fl with|true=>1|false=>match qM (2000+id) fl with|true=>2|false=>0
def M3(full:Nat):Op->Bool
 | .store ..=>match full with|1=>true|_=>false
 | .mapUpdate ..=>false
 | .call c=>match full with|2=>(match c.callee with|.value _=>false|_=>true)|_=>true
 | _=>true
def gP(full:Nat):List Oper->Nat
 | []=>0
 | o::r=>match M3 full o.op with|true=>gP full r+1|false=>0
def lH:Nat->List Oper->List Oper
 | 0,_=>[]
 | _,[]=>[]
 | n+1,x::r=>x::lH n r
theorem n7:∀(n:Nat) (l:List Oper),lH n l=l.take n
 | 0,l=>by simp[lH]
 | n+1,[]=>by simp[lH]
 | n+1,x::r=>by simp[lH,n7 n r]
def oK{PP:Program}{C:Cx PP}(Γ:List (UW C))(nt:Nat)(I:Yj)(inls:List Nat)(full:Nat)(sp:Bool)(ops:Array Oper)(draw:Bool):St->(St->Prop)->Prop
 | ⟨sl,H,nm,rg,_,_⟩,K=>match draw with
  | false=>match yT rg with|.mk rg'=>tl Γ nt I inls ops.toList sp 0 ops.toList ⟨sl,H,nm,rg',[],[]⟩ K|.no=>False
  | true=>match yT rg with
   | .no=>False
   | .mk rg'=>zD (iA Γ nt true ops.toList (lH (gP full ops.toList) ops.toList)) 0 (lH (gP full ops.toList) ops.toList) ⟨sl,H,nm,rg',[],[]⟩
     λst=>tl Γ nt I inls ops.toList sp (gP full ops.toList) (ops.toList.drop (gP full ops.toList)) st K
def C5(full:Nat)(ops:Array Oper)(draw:Bool):Bool:=match draw with|true=>iI ops (gP full ops.toList)|false=>true
section
variable {PP:Program}{C:Cx PP}{Γ:List (UW C)}{nt:Nat}{w0:World}{UT ρ:Names}{a:Act}{W:World}{I:Yj}{inls:List Nat}
theorem Rp.enter{sl:List (Nat×Slot)}{H:bc}{nm rg:Nat}{rd ws:List (Nat×Nat)}(h:Rp C nt w0 UT ⟨sl,H,nm,rg,rd,ws⟩ ρ a W):RI C nt w0 UT ⟨sl,H,nm,rg+1,[],[]⟩ ρ a W:=by
 have U2:∀t s,look sl t=some s->s.rg≠rg+1:=λt s hs e=>by have:s.rg<=rg:=h.rgs t s hs;omega
 exact⟨h.base,λt s hs=>Nat.le_succ_of_le (h.rgs t s hs),λt s hs _ hg=>h.cC t s hs hg,λt s hs hr=>Uw hr (U2 t s hs),λt s hs hr=>Uw hr (U2 t s hs)⟩
theorem RI.leave{st:St}(h:RI C nt w0 UT st ρ a W):Rp C nt w0 UT st ρ a W:=
 ⟨h.base,h.rgs,λt s hs hg=>by
  by_cases hr:s.rg=st.rg;exact(h.ins t s hs hr).1 (by rw[hg];exact holds_nil a)
  ·exact h.out t s hs hr hg⟩
theorem Jo{ops:Array Oper}{st:St}{o:Oper}{f k:Nat}{al:List SV}(hI:eP C I)(h:RI C nt w0 UT st ρ a W)(hs:yS inls nt ops.toList st o=some (f,al)){M:St->Prop}
  (he:I f al st.H st.nm λv H nm=>M ⟨E4 st.rg k [] v o.dst st.sl,H,nm,st.rg,st.rd,st.ws⟩) {K:Act->World->Prop} (hK:∀Vd US a' W',M Vd->RI C nt w0 UT Vd US a' W'->K a' W') :
  if Region.wanted o (yielded ops a.tmps)=true then dB C.P C.co o a W K else K (a.put o.dst undef) W:=by
 obtain⟨dst,oo,ty,pos,after,guard⟩:=o;unfold yS at hs;split at hs
 ·rename_i c hoo;obtain rfl:oo=.call c:=hoo;split at hs
  ·rename_i x WT;split at hs
   ·rename_i sf hg hsf YE;split at hs
    ·rename_i g first captured args YT Vh
     split at hs
     ·split at hs
      ·rename_i Zk YU;obtain⟨rfl,rfl⟩:=P' (Oi hs);obtain rfl:=dI YU;obtain⟨c1,-,-⟩:=kU h hg;rw[UD (c1.2 (holds_nil a))];obtain⟨en,-,hc⟩:=hI _ _ _ _ _ he;have U5:=my (heads:=ops.toList) (k:=0) (o:=⟨dst,.call c,ty,pos,after,guard⟩) h (holds_nil a);obtain⟨fv,cv,XL,Vb⟩:=mP U5 hsf YT Vh;have Ze:=hc ρ W _ h.base.Vg h.base.mem.dom h.base.mem.domv h.base.mem.domk Vb;unfold dB;rw[oI WT XL en rfl];show bx _ _ _ _ _ _;have e:(fv++c.args.map a.eval++cv).toList.toArray=fv++c.args.map a.eval++cv:=(by simp);rw[e] at Ze;refine Ze.mono ?_;rintro e W' ⟨v,val,H',VE,US,rfl,hM,Vr,VW,VS⟩;refine hK _ US _ W' hM ?_;obtain⟨d1,d2⟩:=k9 YE;have hb:∀dd:Option Nat,Base C nt w0 UT H' VE US (a.put dd val) W':=λdd=>⟨h.base.mem.trans Vr,VW,by cases dd<;>simp[Act.put,h.base.sz],by cases dd<;>exact h.base.df⟩
       cases dst with
       | none=>
        refine⟨hb none,h.rgs,λt s hs hr Zs=>?_,λt s hs hr=>?_,h.cl⟩;obtain⟨x,h1,h2⟩:=h.out t s hs hr Zs;exact⟨x,bM Vr.le.unD _ _ h1,h2⟩;obtain⟨h1,h2⟩:=h.ins t s hs hr;exact⟨λhh=>let ⟨x,k1,k2⟩:=h1 hh;⟨x,bM Vr.le.unD _ _ k1,k2⟩,h2⟩
       | some d=>
        obtain⟨Ws,Xq⟩:=d2 d rfl;have Zc:d<a.tmps.size:=(by rw[h.base.sz];exact Ws);exact h.put Vr.le.unD Xq (λp hp=>by cases hp) ⟨λ_=>⟨val,VS,gM Zc⟩,λhn=>Uw (holds_nil _) hn⟩ (hb (some d))
      cases hs
     cases hs
    cases hs
   cases hs
  cases hs
 cases hs
theorem ud{P:Program}{w:World}{d:Nat}{t e:TypeId}{ad:Option Addr}{l c:Nat}(ht:P.underlying t=some (.slice e)):(Op.equalIn (d+1) t (.slice ad l c) (.slice none 0 0)).run P w=.ok ad.isNone w:=by cases ad<;>simp[Op.equalIn,run_underlying ht]
theorem uU{u:SV}{n:Nat}{y:Value}(h:Bt u=some n)(hd:den ρ u y):∃a l c,y=.slice a l c∧(a=none->n=0):=by unfold Bt at h;split at h;rename_i m i sz off n';obtain rfl:=Oi h;obtain⟨l,h1,h3,h4,a',rfl,h6⟩:=hd;refine⟨a',_,_,rfl,λha=>?_⟩;rcases Nat.eq_zero_or_pos (l.cap-off) with h0|h0;omega;obtain⟨b,-,k2⟩:=h6 (by omega);rw[ha] at k2;cases k2;obtain rfl:=Oi h;obtain⟨a,rfl⟩:=hd;exact⟨a,0,0,rfl,λ_=>rfl⟩;rename_i sz n' f;obtain rfl:=Oi h;obtain⟨a,cap,rfl,h2,h3⟩:=hd;refine⟨a,_,cap,rfl,λha=>?_⟩;rcases Nat.eq_zero_or_pos n' with h0|h0;exact h0;obtain⟨b,o,u,k1,-⟩:=h3 0 h0;rw[ha] at k1;cases k1;rename_i m e sz off n';obtain rfl:=Oi h;obtain⟨l,h1,h2,h3,h4,a',rfl,h6⟩:=hd;refine⟨a',_,_,rfl,λha=>?_⟩;rcases Nat.eq_zero_or_pos (l.cap-off) with h0|h0;omega;obtain⟨b,-,k2⟩:=h6 (by omega);rw[ha] at k2;cases k2;cases h
theorem uZ{v:SV}{y:Value}(h:BF v=true)(hd:den ρ v y):y=.slice none 0 0:=by unfold BF at h;split at h;exact hd;cases h
theorem I6{ops:Array Oper}{st:St}{o:Oper}{k n:Nat}{neg:Bool}(h:RI C nt w0 UT st ρ a W)(hs:yz C nt ops.toList st o=some (n,neg)){M:St->Prop}
  (he:∀b:Bool,(b=true->n=0)->M ⟨E4 st.rg k [] (.v (.bool (b != neg))) o.dst st.sl,st.H,st.nm,st.rg,st.rd,st.ws⟩) {K:Act->World->Prop} (hK:∀Vd US a' W',M Vd->RI C nt w0 UT Vd US a' W'->K a' W') :
  if Region.wanted o (yielded ops a.tmps)=true then dB C.P C.co o a W K else K (a.put o.dst undef) W:=by
 obtain⟨dst,oo,ty,pos,after,guard⟩:=o;unfold yz at hs;split at hs
 ·rename_i bo t x y yt hoo;obtain rfl:oo=.binOp bo t x y yt:=hoo;split at hs
  ·rename_i ng ei hng VG hg YE;split at hs
   ·rename_i u v hu hv;split at hs
    ·rename_i n' hb hnl;obtain⟨rfl,rfl⟩:=P' (Oi hs);obtain⟨c1,-,-⟩:=kU h hg;rw[UD (c1.2 (holds_nil a))];have U5:=my (heads:=ops.toList) (k:=0) (o:=⟨dst,.binOp bo t x y yt,ty,pos,after,guard⟩) h (holds_nil a);obtain⟨ad,l,c,e1,h0⟩:=uU hnl (U5.get hu);have e2:=uZ hb (U5.get hv);obtain⟨inf,z,ht,-⟩:=cH (e:=ei.1) (ei:=ei.2) VG;have heq:(Op.equal t (.slice ad l c) (.slice none 0 0)).run C.P W=.ok ad.isNone W:=(by show (Op.equalIn (9999+1) t (.slice ad l c) (.slice none 0 0)).run C.P W=_;exact ud ht);have U6:(execOp a.eval ⟨dst,.binOp bo t x y yt,ty,pos,after,guard⟩).run C.P W=.ok (.value (.bool (ad.isNone != ng))) W:=by
      refine iE ?_ ?_;rw[e1,e2];unfold eqGuard;cases bo<;>rfl;rw[e1,e2];cases bo<;>simp only[O8] at hng<;>first
       | (cases hng;done)
       | (obtain rfl:=Oi hng
          show (do pure (.bool (<-Op.equal t (.slice ad l c) (.slice none 0 0))):Sem Value).run C.P W=_;simp only[UQ,heq,UO,UP,Bool.bne_false])
       | (obtain rfl:=Oi hng
          show (do pure (.bool (!(<-Op.equal t (.slice ad l c) (.slice none 0 0)))):Sem Value).run C.P W=_;simp only[UQ,heq,UO,UP,Bool.bne_true])
     refine bF U6 (hK _ ρ _ W (he ad.isNone λhn=>h0 (by simpa using hn)) ?_);obtain⟨d1,d2⟩:=k9 YE;have WE:∀dd:Option Nat,Base C nt w0 UT st.H st.nm ρ (a.put dd (.bool (ad.isNone != ng))) W:=λdd=>h.base.same (Gr.refl W);cases dst with
     | none=>exact⟨WE none,h.rgs,h.out,h.ins,h.cl⟩
     | some d=>
      obtain⟨Ws,Xq⟩:=d2 d rfl;have Zc:d<a.tmps.size:=(by rw[h.base.sz];exact Ws);exact h.put (.refl _) Xq (λp hp=>by cases hp) ⟨λ_=>⟨_,rfl,gM Zc⟩,λhn=>Uw (holds_nil _) hn⟩ (WE (some d))
    cases hs
   cases hs
  cases hs
 cases hs
theorem w5{ops:Array Oper}(hI:eP C I){k:Nat}{o:Oper}{st:St}{M:St->Prop}(h:RI C nt w0 UT st ρ a W)(he:w6 Γ nt I inls ops.toList k o st M)
  {K:Act->World->Prop} (hK:∀Vd US a' W',M Vd->RI C nt w0 UT Vd US a' W'->K a' W') :
  if Region.wanted o (yielded ops a.tmps)=true then dB C.P C.co o a W K else K (a.put o.dst undef) W:=by
 obtain⟨sl,H,nm,rg,rd,ws⟩:=st;simp only[w6] at he;split at he;rename_i hs;simp only[jg,gA] at he;exact Jo (M:=M) hI h hs he hK;rename_i hs;split at he;rename_i n neg hs;simp only[jg] at he;exact I6 (k:=k) (M:=M) h hs he hK;split at he;cases he;rename_i Vd ob hs;obtain⟨h1,h2⟩:=EC he;exact step_seq h hs h1 λUS a' W' h'=>hK _ _ _ _ h2 h'
theorem Jy{st:St}{t:Nat}{b:Bool}(h:RI C nt w0 UT st ρ a W)(e:Jz st.rg st.sl t=some b):a.tmps[t]? = some (.bool b)∧∃s,look st.sl t=some s∧s.rg=st.rg:=by unfold Jz at e;split at e;cases e;rename_i Yl sk sg v hs;split at e;rename_i b' hb;obtain rfl:=Oi e;have hr:=Nb hb;obtain⟨x,h1,h2⟩:=(h.ins t _ hs hr).1 (holds_nil a);obtain rfl:x=.bool b':=h1;exact⟨h2,_,hs,hr⟩;cases e
def GD.Ok(ops:Array Oper)(a:Act)(st:St)(o:Oper):GD->Prop
 | .plain=>True
 | .go _=>Region.wanted o (yielded ops a.tmps)=true
 | .skip g=>¬Region.wanted o (yielded ops a.tmps)=true∧¬holds a g∧∀p∈g,∃s',look st.sl p.1=some s'∧s'.rg=st.rg
 | .both t _ Vj b=>(Region.wanted o (yielded ops a.tmps)=true↔b=Vj)∧a.tmps[t]? = some (.bool b)∧∃s,look st.sl t=some s∧s.rg=st.rg∧s.g=[]
theorem DU{ops:Array Oper}{st:St}{o:Oper}(h:RI C nt w0 UT st ρ a W):(Jx ops.toList st.rg st.sl o).Ok ops a st o:=by
 unfold Jx;split;trivial;rename_i j Vj hg;split;trivial;rename_i oj hj;split;trivial;rename_i t ht;split;trivial;rename_i Yl sk sg v hs;split
 rotate_left
 trivial;rename_i hr hk;have hr:=Nb hr;have hw:=fe (a:=a) hg hj ht;split;obtain⟨x,h1,h2⟩:=(h.ins t _ hs hr).1 (holds_nil a);split;rename_i b;obtain rfl:x=.bool b:=h1;split;rename_i hb;exact hw.2 (by rw[h2,eq_of_beq hb]);rename_i hb;have U2:¬a.tmps[t]? = some (.bool Vj):=λe=>(by rw[h2] at e;injection e with e;injection e with e;rw[e] at hb;simp at hb);refine⟨λc=>U2 (hw.1 c),λc=>U2 (c (t,Vj) Ut),λp hp=>?_⟩;obtain rfl:p=(t,Vj):=(by simpa using hp);exact⟨_,hs,hr⟩;rename_i b;obtain rfl:x=.bool b:=h1;refine⟨⟨λc=>?_,λc=>hw.2 (by rw[h2,c])⟩,h2,_,hs,hr,rfl⟩;have:=hw.1 c;rw[h2] at this;injection this with e;injection e with e;trivial;rename_i t' pol' g';split;rename_i b hb;split;trivial;rename_i U2;obtain⟨k1,s',k2,k3⟩:=Jy h hb;have hn:∀g:List (Nat×Bool),(t',pol')∈g->¬holds a g:=λg hg c=>(by have:=c _ hg;rw[k1] at this;injection this with e;injection e with e;rw[e] at U2;simp at U2);have hu:=(h.ins t _ hs hr).2 (hn _ Ut);refine⟨λc=>?_,hn _ Ut,λp hp=>?_⟩;have:=hw.1 c;rw[hu] at this;simp[undef] at this;obtain rfl:p=(t',pol'):=(by simpa using hp);exact⟨s',k2,k3⟩;trivial
theorem Oz{P:Program}{co:Bool}{o:Oper}{K:Act->World->Prop} : dB P co (bare o) a W K=dB P co o a W K:=by obtain⟨dst,op,ty,pos,after,guard⟩:=o;rfl
theorem vj{k:Nat}{g:List (Nat×Bool)}{o:Oper}{st:St}{M:St->Prop}(h:RI C nt w0 UT st ρ a W)(he:wZ nt k g o st M)(hn:¬holds a g)(YT:∀p∈g,∃s',look st.sl p.1=some s'∧s'.rg=st.rg)
  {K:Act->World->Prop} (hK:∀Vd US a' W',M Vd->RI C nt w0 UT Vd US a' W'->K a' W'):K (a.put o.dst undef) W:=by
 obtain⟨sl,H,nm,rg,rd,ws⟩:=st;simp only[wZ] at he;split at he
 ·rename_i hd;simp only[jg] at he;refine hK _ ρ _ W he ?_;obtain⟨d1,d2⟩:=k9 hd;have WE:∀dd:Option Nat,Base C nt w0 UT H nm ρ (a.put dd undef) W:=λdd=>h.base.same (Gr.refl W);cases ho:o.dst with
  | none=>exact⟨WE none,h.rgs,h.out,h.ins,h.cl⟩
  | some d=>
   obtain⟨Ws,Xq⟩:=d2 d ho;have Zc:d<a.tmps.size:=(by rw[h.base.sz];exact Ws);refine h.put (.refl _) Xq YT ⟨λhh=>Uw ?_ hn,λ_=>gM Zc⟩ (WE (some d));intro p hp;obtain⟨s',k1,k2⟩:=YT p hp;have U2:d≠p.1:=λe=>jk Xq (by rw[e];exact k1) k2;rw[<-cw U2 (x:=undef)];exact hh p hp
 cases he
theorem RI.lit{sl:List (Nat×Slot)}{H:bc}{nm rg j t:Nat}{rd ws:List (Nat×Nat)}{b:Bool}{s:Slot}(h:RI C nt w0 UT ⟨sl,H,nm,rg,rd,ws⟩ ρ a W)(hs:look sl t=some s)(hr:s.rg=rg)(hb:a.tmps[t]? = some (.bool b)) :
  RI C nt w0 UT ⟨(t,⟨rg,j,[],.bl b⟩)::sl,H,nm,rg,rd,ws⟩ ρ a W:=by
 have Xm:∀t',(∃s',look sl t'=some s'∧s'.rg=rg)->∃s',look ((t,(⟨rg,j,[],.bl b⟩:Slot))::sl) t'=some s'∧s'.rg=rg:=λt' ⟨s',k1,k2⟩=>by by_cases e:t=t';subst e;exact⟨_,aj _ _ _,rfl⟩;exact⟨s',by rw[ah _ _ e];exact k1,k2⟩
 refine⟨h.base,λt' s' WB=>?_,λt' s' WB VX hg=>?_,λt' s' WB VX=>?_,λt' s' WB VX p hp=>?_⟩;by_cases e:t=t';subst e;rw[aj] at WB;obtain rfl:=Oi WB;exact I' _;rw[ah _ _ e] at WB;exact h.rgs t' s' WB;by_cases e:t=t';subst e;rw[aj] at WB;obtain rfl:=Oi WB;exact Uw rfl VX;rw[ah _ _ e] at WB;exact h.out t' s' WB VX hg;by_cases e:t=t';subst e;rw[aj] at WB;obtain rfl:=Oi WB;exact⟨λ_=>⟨_,rfl,hb⟩,λhn=>Uw (holds_nil _) hn⟩;rw[ah _ _ e] at WB;exact h.ins t' s' WB VX;refine Xm p.1 ?_;by_cases e:t=t';subst e;rw[aj] at WB;obtain rfl:=Oi WB;cases hp;rw[ah _ _ e] at WB;exact h.cl t' s' WB VX p hp
theorem mb{a:Act}{t:Nat}{Vj:Bool}(hb:a.tmps[t]? = some (.bool Vj)):∀{g:List (Nat×Bool)},holds a (lx t Vj g)↔holds a g
 | []=>Iff.rfl
 | (t',p')::r=>by
  have ih:=mb hb (g:=r);simp only[lx];split
  ·rename_i h1 h2;obtain rfl:=Nb h1;have h2:p'=Vj:=(by cases p'<;>cases Vj<;>first|rfl|cases h2);subst h2;rw[ih];exact⟨λh p hp=>by
    rcases UI.1 hp with rfl|hp;exact hb
    ·exact h p hp,λh p hp=>h p (UE _ hp)⟩
  constructor;intro h p hp;rcases UI.1 hp with rfl|hp;exact h _ Ut;exact(ih.1 λq hq=>h q (UE _ hq)) p hp;intro h p hp;rcases UI.1 hp with rfl|hp;exact h _ Ut;exact(ih.2 λq hq=>h q (UE _ hq)) p hp
theorem pT{t:Nat}{Vj:Bool} : ∀{g:List (Nat×Bool)} {p:Nat×Bool},p∈lx t Vj g->p∈g
 | [],p,h=>h
 | (t',p')::r,p,h=>by simp only[lx] at h;split at h;exact UE _ (pT h);rcases UI.1 h with rfl|h;exact Ut;exact UE _ (pT h)
theorem ET(rg t:Nat)(Vj:Bool)(n:Nat)(s:Slot):∃s',jM rg t Vj (n,s)=(n,s')∧s'.rg=s.rg∧s'.v=s.v∧(s'.g=s.g∨s.rg=rg∧s'.g=lx t Vj s.g):=by obtain⟨Yl,k,g,v⟩:=s;simp only[jM];split;exact⟨_,rfl,rfl,rfl,.inl rfl⟩;split;exact⟨_,rfl,rfl,rfl,.inl rfl⟩;rename_i hr;exact⟨_,rfl,rfl,rfl,.inr ⟨Nb hr,rfl⟩⟩
theorem rR(rg t:Nat)(Vj:Bool)(n:Nat):∀(l:List (Nat×Slot)),(look l n=none∧look (l.map (jM rg t Vj)) n=none)∨∃s s',look l n=some s∧look (l.map (jM rg t Vj)) n=some s'∧s'.rg=s.rg∧s'.v=s.v∧(s'.g=s.g∨s.rg=rg∧s'.g=lx t Vj s.g)
 | []=>.inl ⟨rfl,rfl⟩
 | (m,s)::r=>by obtain⟨s',e,h1,h2,h3⟩:=ET rg t Vj m s;rw[List.map_cons,e];by_cases hm:m=n;subst hm;exact .inr ⟨s,s',aj _ _ _,aj _ _ _,h1,h2,h3⟩;rw[ah _ _ hm,ah _ _ hm];exact rR rg t Vj n r
theorem nq(rg t:Nat)(Vj:Bool)(n:Nat){l l':List (Nat×Slot)}(h:nZ rg t Vj l=some l'):(look l n=none∧look l' n=none)∨∃s s',look l n=some s∧look l' n=some s'∧s'.rg=s.rg∧s'.v=s.v∧(s'.g=s.g∨s.rg=rg∧s'.g=lx t Vj s.g):=by rw[HF h];exact rR rg t Vj n l
theorem RI.strip{sl Xr:List (Nat×Slot)}{H:bc}{nm rg t:Nat}{rd ws:List (Nat×Nat)}{Vj:Bool}(h:RI C nt w0 UT ⟨sl,H,nm,rg,rd,ws⟩ ρ a W)(hb:a.tmps[t]? = some (.bool Vj))(hu:nZ rg t Vj sl=some Xr) :
  RI C nt w0 UT ⟨Xr,H,nm,rg,rd,ws⟩ ρ a W:=by
 have key:∀{n:Nat} {s':Slot},look Xr n=some s'->∃s,look sl n=some s∧s'.rg=s.rg∧s'.v=s.v∧(s'.g=s.g∨s.rg=rg∧s'.g=lx t Vj s.g):=λ{n s'} hs=>by
  rcases nq rg t Vj n hu with ⟨-,h2⟩|⟨s,s'',k1,k2,k3⟩
  rw[h2] at hs;cases hs;rw[k2] at hs;obtain rfl:=Oi hs;exact⟨s,k1,k3⟩
 refine⟨h.base,λn s' hs=>?_,λn s' hs hr hg=>?_,λn s' hs hr=>?_,λn s' hs hr p hp=>?_⟩;obtain⟨s,k1,k2,-⟩:=key hs;rw[k2];exact h.rgs n s k1
 ·obtain⟨s,k1,k2,k3,k4⟩:=key hs;rw[k3];rcases k4 with k4|⟨k4,-⟩
  exact h.out n s k1 (by rw[<-k2];exact hr) (by rw[<-k4];exact hg);exact Uw (k2.trans k4) hr
 ·obtain⟨s,k1,k2,k3,k4⟩:=key hs;have hn:=h.ins n s k1 (k2.symm.trans hr);rw[k3];rcases k4 with k4|⟨-,k4⟩
  rw[k4];exact hn;rw[k4];exact⟨λhh=>hn.1 ((mb hb).1 hh),λhh=>hn.2 λc=>hh ((mb hb).2 c)⟩
 obtain⟨s,k1,k2,-,k4⟩:=key hs;have hp':p∈s.g:=by
  rcases k4 with k4|⟨-,k4⟩
  rw[<-k4];exact hp;rw[k4] at hp;exact pT hp
 obtain⟨s0,q1,q2⟩:=h.cl n s k1 (k2.symm.trans hr) p hp';rcases nq rg t Vj p.1 hu with ⟨h2,-⟩|⟨s1,s2,r1,r2,r3,-⟩
 rw[q1] at h2;cases h2;rw[q1] at r1;obtain rfl:=Oi r1;exact⟨s2,r2,r3.trans q2⟩
theorem JU{ops:Array Oper}(hI:eP C I){sp:Bool}{k:Nat}{o:Oper}{st:St}{M:St->Prop}(h:RI C nt w0 UT st ρ a W)(he:evG Γ nt I inls ops.toList sp k o st M)
  {K:Act->World->Prop} (hK:∀Vd US a' W',M Vd->RI C nt w0 UT Vd US a' W'->K a' W') :
  if Region.wanted o (yielded ops a.tmps)=true then dB C.P C.co o a W K else K (a.put o.dst undef) W:=by
 obtain⟨sl,H,nm,rg,rd,ws⟩:=st;have hb:∀st ρ,RI C nt w0 UT st ρ a W->w6 Γ nt I inls ops.toList k (bare o) st M->dB C.P C.co o a W K:=λst ρ h he=>by have:=w5 hI h he hK;rw[UD (dc rfl),Oz] at this;exact this
 cases sp with
 | false=>exact w5 hI h he hK
 | true=>
  simp only[evG] at he;have hd:=DU (ops:=ops) (o:=o) h;have hd:(Jx ops.toList rg sl o).Ok ops a ⟨sl,H,nm,rg,rd,ws⟩ o:=hd;split at he;exact w5 hI h he hK;rename_i heq;rw[heq] at hd;replace hd:Region.wanted o (yielded ops a.tmps)=true:=hd;rw[UD hd];exact hb _ _ h he;rename_i g heq;rw[heq] at hd;rw[UC hd.1];exact vj h he hd.2.1 hd.2.2 hK;rename_i t j Vj b heq;rw[heq] at hd;obtain⟨d1,d2,s,d3,d4,d5⟩:=hd;simp only[jg] at he;by_cases e:b=Vj;rw[UD (d1.2 e)];have he:=he.1 e;split at he;rename_i Yz hu;have hu:nZ rg t Vj ((t,⟨rg,j,[],.bl Vj⟩)::sl)=some Yz:=hu;have d2':a.tmps[t]? = some (.bool Vj):=(by rw[<-e];exact d2);exact hb _ _ ((h.lit (j:=j) d3 d4 (b:=Vj) d2').strip d2' hu) he;exact he.elim;have e2:b = !Vj:=(by cases b<;>cases Vj<;>first|rfl|exact Uw rfl e);rw[UC λc=>e (d1.1 c)];have he:=he.2 e2;split at he
  rotate_left
  exact he.elim;rename_i Yz hu;have hu:nZ rg t (!Vj) ((t,⟨rg,j,[],.bl (!Vj)⟩)::sl)=some Yz:=hu;have d2':a.tmps[t]? = some (.bool (!Vj)):=(by rw[<-e2];exact d2);refine vj ((h.lit d3 d4 (b:=!Vj) (j:=j) d2').strip d2' hu) he (λc=>?_) (λp hp=>?_) hK;have:=c (t,Vj) Ut;rw[d2,e2] at this;cases Vj<;>cases this;obtain rfl:p=(t,Vj):=(by simpa using hp);rcases nq rg t (!Vj) t hu with ⟨h2,-⟩|⟨s1,s2,r1,r2,r3,-⟩
  rw[aj] at h2;cases h2;rw[aj] at r1;obtain rfl:=Oi r1;exact⟨s2,r2,r3⟩
theorem RI.later{st:St}{W1:World}(h:RI C nt w0 UT st ρ a W)(r:Rv W W1):RI C nt w0 UT st ρ a W1:=
 ⟨h.base.same (dst:=none) (x:=undef) ⟨r.os,r.tape,r.output,r.size,λb hb=>r.same hb⟩,h.rgs,h.out,h.ins,h.cl⟩
theorem Qk{ops:Array Oper}{st:St}{o:Oper}{f k:Nat}{al:List SV}{K:SV->bc->Nat->Prop}(hI:eP C I)(h:RI C nt w0 UT st ρ a W)(hs:yS inls nt ops.toList st o=some (f,al))(he:I f al st.H st.nm K):NS C.P (execOp a.eval o):=by
 obtain⟨dst,oo,ty,pos,after,guard⟩:=o;unfold yS at hs;split at hs
 ·rename_i c hoo;obtain rfl:oo=.call c:=hoo;split at hs
  ·rename_i x WT;split at hs
   ·rename_i sf hg hsf YE;split at hs
    ·rename_i g first captured args YT Vh
     split at hs;split at hs;rename_i Zk YU;obtain⟨rfl,rfl⟩:=P' (Oi hs);have U5:=my (heads:=ops.toList) (k:=0) (o:=⟨dst,.call c,ty,pos,after,guard⟩) h (holds_nil a);obtain⟨fv,cv,XL,-⟩:=mP U5 hsf YT Vh;exact ou WT XL (hI _ _ _ _ _ he).2.1;cases hs;cases hs
    cases hs
   cases hs
  cases hs
 cases hs
theorem P4{ops:Array Oper}{st:St}{o:Oper}{n:Nat}{neg:Bool}(h:RI C nt w0 UT st ρ a W)(hs:yz C nt ops.toList st o=some (n,neg)):NS C.P (execOp a.eval o):=by
 obtain⟨dst,oo,ty,pos,after,guard⟩:=o;unfold yz at hs;split at hs
 ·rename_i b t x y yt hoo;obtain rfl:oo=.binOp b t x y yt:=hoo;split at hs
  ·rename_i ng el hng YS hg YE;split at hs
   ·rename_i u v hu hv;split at hs;rename_i hv1 hv2;have U5:=my (heads:=ops.toList) (k:=0) (o:=⟨dst,.binOp b t x y yt,ty,pos,after,guard⟩) h (holds_nil a);obtain⟨ad,l,c,e1,-⟩:=uU hv2 (U5.get hu);have e2:=uZ hv1 (U5.get hv);have key:NS C.P (binOp b t (a.eval x) (a.eval y))->NS C.P (execOp a.eval ⟨dst,.binOp b t x y yt,ty,pos,after,guard⟩):=λk=>aa (aa (nH _ _ _ _ _ _) λ_=>k) λ_=>trivial;refine key ?_;rw[e1,e2];cases b<;>first|exact aa (wv _ _ _ _ _) λ_=>trivial|cases hng
    cases hs
   cases hs
  cases hs
 cases hs
theorem rD{ops:Array Oper}(hI:eP C I){k:Nat}{o:Oper}{st:St}{M:St->Prop}(h:RI C nt w0 UT st ρ a W)(he:w6 Γ nt I inls ops.toList k o st M)(hw:Region.wanted o (yielded ops a.tmps)=true):NS C.P (execOp a.eval o):=by obtain⟨sl,H,nm,rg,rd,ws⟩:=st;simp only[w6] at he;split at he;rename_i hs;simp only[jg,gA] at he;exact Qk (k:=k) hI h hs he;split at he;rename_i n neg hs;exact P4 h hs;split at he;cases he;rename_i Vd ob hs;exact LW h hs hw
theorem QH{ops:Array Oper}(hI:eP C I){sp:Bool}{k:Nat}{o:Oper}{st:St}{M:St->Prop}(h:RI C nt w0 UT st ρ a W)(he:evG Γ nt I inls ops.toList sp k o st M)(hw:Region.wanted o (yielded ops a.tmps)=true):NS C.P (execOp a.eval o):=by
 obtain⟨sl,H,nm,rg,rd,ws⟩:=st;cases sp with
 | false=>exact rD hI h he hw
 | true=>
  simp only[evG] at he;have hd:=DU (ops:=ops) (o:=o) h;have hd:(Jx ops.toList rg sl o).Ok ops a ⟨sl,H,nm,rg,rd,ws⟩ o:=hd;split at he;exact rD hI h he hw;exact rD (o:=bare o) hI h he (dc rfl);rename_i g heq;rw[heq] at hd;exact Uw hw hd.1;rename_i t j Vj b heq;rw[heq] at hd;obtain⟨d1,d2,s,d3,d4,d5⟩:=hd;simp only[jg] at he;have e:=d1.1 hw;have he:=he.1 e;split at he;rename_i Yz hu;have hu:nZ rg t Vj ((t,⟨rg,j,[],.bl Vj⟩)::sl)=some Yz:=hu;have d2':a.tmps[t]? = some (.bool Vj):=(by rw[<-e];exact d2);exact rD (o:=bare o) hI ((h.lit (j:=j) d3 d4 (b:=Vj) d2').strip d2' hu) he (dc rfl);exact he.elim
theorem QG{ops:Array Oper}(hI:eP C I){sp:Bool}{k:Nat}{o:Oper}{st:St}{M:St->Prop}(h:RI C nt w0 UT st ρ a W)(he:evG Γ nt I inls ops.toList sp k o st M)
  {K:Act->World->Prop} (hK:∀Vd US a' W',M Vd->RI C nt w0 UT Vd US a' W'->K a' W') :
  if Region.wanted o (yielded ops a.tmps)=true then OpJ C.P C.co o a W K else K (a.put o.dst undef) W:=by
 have h0:=JU hI h he hK;split;rename_i hw;refine⟨QH hI h he hw,λW1 r=>?_⟩;have h1:=JU hI (h.later r) he hK;rw[UD hw] at h1;exact h1;rename_i hw;rw[UC hw] at h0;exact h0
theorem l8{ops:Array Oper}{sp:Bool}{Q:Exit->Act->World->Prop}(hI:eP C I){K:St->Prop}(hQ:∀st ρ a W,K st->RI C nt w0 UT st ρ a W->Q .normal a W) :
  ∀(r:List Oper) (k:Nat) (st:St) (ρ:Names) (a:Act) (W:World),RI C nt w0 UT st ρ a W->tl Γ nt I inls ops.toList sp k r st K->cz C.P C.co ops Q r a W
 | [],k,st,ρ,a,W,h,he=>hQ st ρ a W he h
 | o::r,k,st,ρ,a,W,h,he=>by simp only[tl,kT] at he;refine vH λK' Z1=>?_;exact QG hI h he λVd US a' W' hM h'=>Z1 _ _ (l8 hI hQ r (k+1) Vd US a' W' h' hM)
def MJ(_:Oper):Bool:=true
theorem zC{ops:Array Oper}{full:Nat}{sp draw:Bool}{id:Nat}{Q:Exit->Act->World->Prop}{st:St}{K:St->Prop}(hI:eP C I)(hm:C.P.follows .mixedOrders=true)(hB0:C5 full ops draw=true)(h:Rp C nt w0 UT st ρ a W)(he:oK Γ nt I inls full sp ops draw st K)
  (hQ:∀st ρ a W,K st->Rp C nt w0 UT st ρ a W->Q .normal a W):wpR C.P C.co (.region id ops draw) Q a W:=by
 obtain⟨sl,H,nm,rg,rd,ws⟩:=st;have hi:=h.enter;have hQ':∀st ρ a W,K st->RI C nt w0 UT st ρ a W->Q .normal a W:=λst ρ a W hk hr=>hQ st ρ a W hk hr.leave;cases draw with
 | false=>
  simp only[oK,kT] at he;exact lj (l8 hI hQ' _ _ _ _ _ _ hi he)
 | true=>
  unfold oK at he;simp only[kT] at he;have hB:iI ops (gP full ops.toList)=true:=hB0;clear hB0;rw[n7] at he;have hle:gP full ops.toList<=ops.toList.length:=by
   generalize ops.toList=l
   induction l with
   | nil=>simp[gP]
   | cons o r ih=>simp only[gP];split<;>simp<;>omega
  generalize gP full ops.toList=n at he hB hle;have hlen:(ops.toList.take n).length=n:=(by rw[List.length_take];omega);obtain⟨U6,hK⟩:=tn _ (l:=ops.toList.take n) (st0:=⟨sl,H,nm,rg+1,[],[]⟩) (ops.toList.take n) 0 (λj=>by simp) (by simp) he;have F:cJ Γ nt ops.toList (ops.toList.take n) ⟨sl,H,nm,rg+1,[],[]⟩ (pg (iA Γ nt true ops.toList (ops.toList.take n)) (ops.toList.take n) ⟨sl,H,nm,rg+1,[],[]⟩):=
   ⟨rfl,λi o ho=>U6 i o (Up _) ho,λt s hs=>by
    have:s.rg<=rg:=h.rgs t s hs;show s.rg≠rg+1;omega,λi o ho=>by
    have hl:i<n:=by have:=(J'.1 ho).1;omega
    rwa [UF hl] at ho⟩
  refine lC hm λW1 r1=>?_;have hid:=hi.later r1;refine nA (n:=n) hB (λlisted a' W'=>∃US,HI C nt w0 UT (ops.toList.take n) ⟨sl,H,nm,rg+1,[],[]⟩ (pg (iA Γ nt true ops.toList (ops.toList.take n)) (ops.toList.take n) ⟨sl,H,nm,rg+1,[],[]⟩) ρ a listed US a' W')
   ⟨ρ,sT F hid (λi=>getD_replicate_false _ i)⟩ ?_ ?_
  intro listed a' W' i o inv hI' Xm ho hu Va K' Z1;have Zr:(ops.toList.take n)[i]? = some o:=(by rw[UF Xm];simpa using ho);exact DM F hlen hid listed a' W' i o inv hI' Xm ho Zr hu Va K' Z1;intro listed a' W' ⟨US,hI'⟩ Vb;exact l8 hI hQ' _ _ _ US a' W' (va F hid hI' (by rw[hlen];exact Vb)) hK
end
end Go.Proofs.YtgigkennhdolpaaGreatDoor
