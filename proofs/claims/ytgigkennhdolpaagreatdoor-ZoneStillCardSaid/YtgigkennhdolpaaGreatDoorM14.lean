/- A symbolic executor with lists, 17. -/
import Derived.Test.YtgigkennhdolpaaGreatDoorM13
namespace Go.Proofs.YtgigkennhdolpaaGreatDoor
open Go.RowKit
inductive Ex where
 | normal
 | exit (id:Nat)
 | ret
def Ex.to:Ex->Exit
 | .normal=>.normal
 | .exit i=>.exit i
 | .ret=>.ret
def qv(sl:List (Nat×Slot)):Operand->Option SV
 | .const v=>some (cO v)
 | .global g=>some (.v (.pointer (some ⟨g,0,none⟩)))
 | .func f=>some (.v (.func (.func f) #[] #[]))
 | .tmp t=>match look sl t with
  | none=>none
  | some ⟨_,_,g,v⟩=>match g with|[]=>some v|_::_=>none
theorem Fc{sl:List (Nat×Slot)}{x:Operand} : qv sl x=match x with
 | .const v=>some (cO v)
 | .global g=>some (.v (.pointer (some ⟨g,0,none⟩)))
 | .func f=>some (.v (.func (.func f) #[] #[]))
 | .tmp t=>match look sl t with
  | none=>none
  | some s=>match s.g with|[]=>some s.v|_::_=>none:=by
 cases x with
 | tmp t=>
  simp only[qv];cases look sl t with
  | none=>rfl
  | some s=>cases s;rfl
 | _=>rfl
def WX:List (Nat×Nat)->Nat->Nat
 | [],n=>n
 | (a,b)::r,n=>match Nat.beq a n with|true=>b|false=>WX r n
def Fz(σ:List (Nat×Nat))(o:Nat):Nat->Option Nat
 | 0=>none
 | k+1=>match Nat.beq (WX σ k) o with|true=>some k|false=>Fz σ o k
def iP(nm:Nat)(σ:List (Nat×Nat))(ρ:Names):Names:=
 ⟨λn=>match Nat.blt n nm with|true=>ρ.n (WX σ n)|false=>none,
 λe=>match Nat.blt e nm with
  | true=>match ρ.v (WX σ e) with
   | some l=>match Fz σ l.o nm with|some o=>some ⟨o,l.a,l.cap,l.N⟩|none=>none
   | none=>none
  | false=>none,
 λm i=>match Nat.blt m nm with|true=>ρ.k (WX σ m) i|false=>none,
 ρ.z,ρ.d,ρ.o⟩
def jZ(nm:Nat)(σ:List (Nat×Nat))(n' n:Nat):Bool:=match Nat.blt n' nm with|true=>Nat.beq (WX σ n') n|false=>false
def eqO(b:Bool)(l:List Prop):Option (List Prop):=match b with|true=>some l|false=>none
def vqI(k:IntKind)(a:Int)(x:SV):Option (List Prop):=match x.int? with|none=>none|some (k',b)=>eqO (jv k k') [a=b]
def vqB(a:Bool)(x:SV):Option (List Prop):=match x.bool? with|none=>none|some b=>some [a=b]
def vqV(y:Value):SV->Option (List Prop)
 | .v y'=>some [y=y']
 | _=>none
def nc:Option (List Prop)->Option (List Prop)->Option (List Prop)
 | some a,some b=>some (a++b)
 | _,_=>none
mutual
def vq(nm:Nat)(σ:List (Nat×Nat)):SV->SV->Option (List Prop)
 | .v (.int k a),x=>vqI k a x
 | .il k a,x=>vqI k a x
 | .v (.bool a),x=>vqB a x
 | .bl a,x=>vqB a x
 | .v y,x=>vqV y x
 | .p n off,x=>match x with
  | .p n' V4=>match jZ nm σ n n' with|true=>eqO (Nat.beq off V4) []|false=>none
  | _=>none
 | .s n sz off len cap,x=>match x with
  | .s n' Vi V4 XP cap'=>match jZ nm σ n n',Nat.beq sz Vi,Nat.beq off V4,Nat.beq len XP with|true,true,true,true=>eqO (Nat.beq cap cap') []|_,_,_,_=>none
  | _=>none
 | .f fn p q,x=>match x with|.f fn' p' q'=>nc (some [fn=fn']) (nc (Vu nm σ p p') (Vu nm σ q q'))|_=>none
 | .agg l,x=>match x with|.agg l'=>Vu nm σ l l'|_=>none
 | .tup l,x=>match x with|.tup l'=>Vu nm σ l l'|_=>none
 | .e,x=>match x with|.e=>some []|.v (.slice none 0 0)=>some []|_=>none
 | .rs sz n h,x=>match x with
  | .rs Vi n' h'=>eqO (Nat.beq sz Vi) [n=n',∀i,i<n'->aO (Vu nm σ (h i) (h' i))]
  | .e=>some [n=0]
  | .v (.slice none 0 0)=>some [n=0]
  | _=>none
 | .rp l off,x=>match x with|.rp l' V4=>nc (some [off=V4]) (Vu nm σ l l')|_=>none
 | .g m e sz off n,x=>match x with
  | .g m' e' Vi V4 n'=>match jZ nm σ m m',jZ nm σ e e' with|true,true=>eqO (Nat.beq sz Vi) [off=V4,n=n']|_,_=>none
  | _=>none
 | .gp m e sz i off,x=>match x with
  | .gp m' e' Vi i' V4=>match jZ nm σ m m',jZ nm σ e e' with|true,true=>eqO (Nat.beq sz Vi) [i=i',off=V4]|_,_=>none
  | _=>none
 | .m n,x=>match x with
  | .m n'=>match jZ nm σ n n' with|true=>some []|false=>none
  | _=>none
 | .kd m i sz off n,x=>match x with
  | .kd m' i' Vi V4 n'=>match jZ nm σ m m' with|true=>eqO (Nat.beq sz Vi) [i=i',off=V4,n=n']|_=>none
  | _=>none
 | .kq m i sz j off,x=>match x with
  | .kq m' i' Vi j' V4=>match jZ nm σ m m' with|true=>eqO (Nat.beq sz Vi) [i=i',j=j',off=V4]|_=>none
  | _=>none
def Vu(nm:Nat)(σ:List (Nat×Nat)):List SV->List SV->Option (List Prop)
 | [],x=>match x with|[]=>some []|_::_=>none
 | y::r,x=>match x with|[]=>none|x::s=>nc (vq nm σ y x) (Vu nm σ r s)
end
def LK(nm:Nat)(σ:List (Nat×Nat))(st:St):List (Nat×Slot)->Option (List Prop)
 | []=>some []
 | (t,s')::r=>match look st.sl t with
  | none=>none
  | some s=>match s.g,s'.g with|[],[]=>nc (vq nm σ s'.v s.v) (LK nm σ st r)|_,_=>none
def AP(nm:Nat)(σ:List (Nat×Nat))(n:Nat):SB->SB->Option (List Prop)
 | .lay cs t,x=>match x with
  | .lay Yi t'=>match Nat.beq t t' with|true=>Vu nm σ cs Yi|false=>none
  | _=>none
 | .lst e sz N h t,x=>match x with
  | .lst e' Vi N' h' t'=>match jZ nm σ e e',Nat.beq sz Vi with|true,true=>eqO (Nat.beq t t') [N=N',∀i,i<N'->aO (Vu nm σ (h i) (h' i))]|_,_=>none
  | _=>none
 | .gone,_=>some []
 | .nst e sz N h p Vk g tk t last,x=>match x with
  | .nst e' Vi N' h' p' Z8 g' tk' t' X5=>match last,X5,jZ nm σ e e',Nat.beq sz Vi,Nat.beq p p',Nat.beq Vk Z8,Nat.beq tk tk' with
   | none,none,true,true,true,true,true=>eqO (Nat.beq t t') [N=N',∀i,i<N'->aO (Vu nm σ ((h i).set p .e) ((h' i).set p .e)),∀i,i<N'->(g i).1=(g' i).1,∀i,i<N'->∀j,j<(g' i).1->aO (Vu nm σ ((g i).2 j) ((g' i).2 j))]
   | _,_,_,_,_,_,_=>none
  | _=>none
 | .mp k ag has g,x=>match x with
  | .mp k' ag' has' g'=>match jv k k',Bd ag ag' with|true,true=>some [∀j,has j=has' j,∀j,has' j=true->aO (Vu nm σ (g j) (g' j))]|_,_=>none
  | _=>none
def vqH(nm:Nat)(σ:List (Nat×Nat))(st:St):bc->Option (List Prop)
 | []=>some []
 | (n,VC)::r=>match look st.H (WX σ n),Nat.blt n nm with
  | some sb,true=>nc (AP nm σ n VC sb) (vqH nm σ st r)
  | _,_=>none
def wT(σ:List (Nat×Nat))(m:Nat):Nat->Bool
 | 0=>true
 | k+1=>match Nat.beq (WX σ k) (WX σ m) with|true=>false|false=>wT σ m k
def M4(σ:List (Nat×Nat)):Nat->Bool
 | 0=>true
 | k+1=>match wT σ k k with|true=>M4 σ k|false=>false
def Ni(σ:List (Nat×Nat)):Nat->Bool
 | 0=>true
 | k+1=>match Nat.beq (WX σ k) k with|true=>Ni σ k|false=>false
def rgB(rg:Nat):List (Nat×Slot)->Bool
 | []=>true
 | (_,s)::r=>match Nat.ble s.rg rg with|true=>rgB rg r|false=>false
def J8(nm0:Nat)(σ:List (Nat×Nat))(Vd:St):Bool:=match Nat.ble nm0 Vd.nm,M4 σ Vd.nm,Ni σ nm0,rgB Vd.rg Vd.sl with|true,true,true,true=>true|_,_,_,_=>false
def SQ(m:Nat)(sb:SB)(n off:Nat):SV:=match Nat.beq n m,sb with
 | true,.lay cs _=>.rp cs off
 | _,_=>.p n off
def SU(m:Nat)(sb:SB)(n sz off len cap:Nat):SV:=match Nat.beq n m,sb with
 | true,.lay cs _=>match Nat.ble (off+len*sz) cs.length,Nat.ble len cap with
  | true,true=>.rs sz len (λi=>chunk (cs.drop off) sz i)
  | _,_=>.s n sz off len cap
 | _,_=>.s n sz off len cap
def SS(m:Nat)(sb:SB)(m' e' Vi off n:Nat):SV:=match Nat.beq m' m,sb with
 | true,.lst e sz _ h _=>match Nat.beq e' e,Nat.beq Vi sz with|true,true=>.rs sz n (λi=>h (off+i))|_,_=>.g m' e' Vi off n
 | true,.nst e sz _ h p Vk g _ _ none=>match Nat.beq e' e,Nat.beq Vi sz with|true,true=>.rs sz n (λi=>Fe h p Vk g (off+i))|_,_=>.g m' e' Vi off n
 | _,_=>.g m' e' Vi off n
def Pf(m:Nat)(sb:SB)(m' e' Vi i off:Nat):SV:=match Nat.beq m' m,sb with
 | true,.lst e sz _ h _=>match Nat.beq e' e,Nat.beq Vi sz with|true,true=>.rp (h i) off|_,_=>.gp m' e' Vi i off
 | true,.nst e sz _ h p Vk g _ _ none=>match Nat.beq e' e,Nat.beq Vi sz with|true,true=>.rp (Fe h p Vk g i) off|_,_=>.gp m' e' Vi i off
 | _,_=>.gp m' e' Vi i off
def SR(m:Nat)(sb:SB)(m' i Vi off n:Nat):SV:=match Nat.beq m' m,sb with
 | true,.nst _ _ _ _ _ Vk g _ _ none=>match Nat.beq Vi Vk with|true=>.rs Vk n (λj=>(g i).2 (off+j))|_=>.kd m' i Vi off n
 | _,_=>.kd m' i Vi off n
def SP(m:Nat)(sb:SB)(m' i Vi j off:Nat):SV:=match Nat.beq m' m,sb with
 | true,.nst _ _ _ _ _ Vk g _ _ none=>match Nat.beq Vi Vk with|true=>.rp ((g i).2 j) off|_=>.kq m' i Vi j off
 | _,_=>.kq m' i Vi j off
mutual
def uq(m:Nat)(sb:SB):SV->SV
 | .g m' e' Vi off n=>SS m sb m' e' Vi off n
 | .gp m' e' Vi i off=>Pf m sb m' e' Vi i off
 | .kd m' i Vi off n=>SR m sb m' i Vi off n
 | .kq m' i Vi j off=>SP m sb m' i Vi j off
 | .m n=>.m n
 | .agg l=>.agg (BI m sb l)
 | .tup l=>.tup (BI m sb l)
 | .f fn x y=>.f fn (BI m sb x) (BI m sb y)
 | .v x=>.v x
 | .il k n=>.il k n
 | .bl b=>.bl b
 | .p n off=>SQ m sb n off
 | .s n sz off len cap=>SU m sb n sz off len cap
 | .e=>.e
 | .rs sz n h=>.rs sz n h
 | .rp x off=>.rp x off
def BI(m:Nat)(sb:SB):List SV->List SV
 | []=>[]
 | x::r=>uq m sb x::BI m sb r
end
def yY(m:Nat)(sb:SB):List (Nat×Slot)->List (Nat×Slot)
 | []=>[]
 | (t,s)::r=>(t,⟨s.rg,s.k,s.g,uq m sb s.v⟩)::yY m sb r
def Pe(m:Nat)(sb:SB):SB->SB
 | .lay cs t=>.lay (BI m sb cs) t
 | x=>x
def JC(m:Nat)(sb:SB):bc->bc
 | []=>[]
 | (n,b)::r=>(n,Pe m sb b)::JC m sb r
def JB:SB->Bool
 | .lst _ _ _ _ _=>true
 | .lay cs _=>dq cs
 | .gone=>false
 | .mp _ _ _ _=>false
 | .nst _ _ _ _ _ _ _ _ _ last=>match last with|none=>true|some _=>false
inductive Tr where
 | freeze (m:Nat)
  /-- .. with an age of its own. -/
 | slot2 (t sz:Nat) (ty:TypeId)
 | cell2 (n i sz:Nat) (ty:TypeId)
  /-- .. a list of lists: Ye cell YY they lie in, their size. -/
 | cellN (n i sz p Vk:Nat) (tk ty:TypeId)
  /-- The list of Ye element YY was put behind a list of lists becomes its own; whoever else knows it, forgets it. -/
 | bE (M:Nat)
def tu:SV->Bool
 | .e=>true
 | .v (.slice none 0 0)=>true
 | _=>false
def pS(m:Nat):List (Nat×Slot)->List (Nat×Slot)
 | []=>[]
 | (t,s)::r=>match qM m (dX s.v) with
  | true=>(t,⟨s.rg,s.k,[(0,true)],.e⟩)::pS m r
  | false=>(t,s)::pS m r
def tw(m:Nat):SB->SB
 | .lay cs t=>match qM m (g7 cs) with|true=>.gone|false=>.lay cs t
 | .nst e sz N h p Vk g tk t last=>match last with
  | none=>.nst e sz N h p Vk g tk t none
  | some cs=>match qM m (g7 cs) with|true=>.gone|false=>.nst e sz N h p Vk g tk t (some cs)
 | x=>x
def vl(m:Nat):bc->bc
 | []=>[]
 | (n,b)::r=>(n,tw m b)::vl m r
def Bm{α:Type}(N:Nat)(x:α)(f:Nat->α):Nat->α:=λi=>match Nat.beq i N with|true=>x|false=>f i
def xt(nm0 M:Nat)(H:bc):Option (Nat×SB):=match look H M with
 | some (.nst e sz N h p Vk g tk t (some cs))=>match cs[p]?,dq (cs.set p .e) with
  | some (.g m1 e1 szk1 0 n1),true=>match look H m1 with
   | some (.lst e1' szk1' _ h1 t1)=>match Nat.beq e1 e1',Nat.beq szk1 szk1',Nat.beq szk1 Vk,Nat.beq t1 tk,Nat.ble nm0 m1 with
    | true,true,true,true,true=>some (m1,.nst e sz (N+1) (Bm N cs h) p Vk (Bm N (n1,h1) g) tk t none)
    | _,_,_,_,_=>none
   | _=>none
  | _,_=>none
 | _=>none
def tr1(nm0:Nat):Tr->St->St
 | .freeze m,⟨sl,H,nm,rg,rd,ws⟩=>match look H m with
  | some sb=>match JB sb with
   | true=>⟨yY m sb sl,(m,.gone)::JC m sb H,nm,rg,rd,ws⟩
   | false=>⟨sl,H,nm,rg,rd,ws⟩
  | _=>⟨sl,H,nm,rg,rd,ws⟩
 | .slot2 t sz ty,⟨sl,H,nm,rg,rd,ws⟩=>match look sl t with
  | some ⟨r,k,[],v⟩=>match tu v,Nat.ble r rg with
   | true,true=>⟨(t,⟨r,k,[],.g nm (nm+1) sz 0 0⟩)::sl,(nm,.lst (nm+1) sz 0 (λ_=>[]) ty)::H,nm+2,rg,rd,ws⟩
   | _,_=>⟨sl,H,nm,rg,rd,ws⟩
  | _=>⟨sl,H,nm,rg,rd,ws⟩
 | .cell2 n i sz ty,⟨sl,H,nm,rg,rd,ws⟩=>match look H n with
  | some (.lay cs t)=>match cs[i]? with
   | some v=>match tu v with
    | true=>⟨sl,(n,.lay (cs.set i (.g nm (nm+1) sz 0 0)) t)::(nm,.lst (nm+1) sz 0 (λ_=>[]) ty)::H,nm+2,rg,rd,ws⟩
    | false=>⟨sl,H,nm,rg,rd,ws⟩
   | none=>⟨sl,H,nm,rg,rd,ws⟩
  | _=>⟨sl,H,nm,rg,rd,ws⟩
 | .cellN n i sz p Vk tk ty,⟨sl,H,nm,rg,rd,ws⟩=>match look H n with
  | some (.lay cs t)=>match cs[i]? with
   | some v=>match tu v with
    | true=>⟨sl,(n,.lay (cs.set i (.g nm (nm+1) sz 0 0)) t)::(nm,.nst (nm+1) sz 0 (λ_=>[]) p Vk (λ_=>(0,λ_=>[])) tk ty none)::H,nm+2,rg,rd,ws⟩
    | false=>⟨sl,H,nm,rg,rd,ws⟩
   | none=>⟨sl,H,nm,rg,rd,ws⟩
  | _=>⟨sl,H,nm,rg,rd,ws⟩
 | .bE M,⟨sl,H,nm,rg,rd,ws⟩=>match xt nm0 M H with
  | some (m1,sb)=>⟨pS m1 sl,(M,sb)::(m1,.gone)::vl m1 H,nm,rg,rd,ws⟩
  | none=>⟨sl,H,nm,rg,rd,ws⟩
def trs(nm0:Nat):List Tr->St->St
 | [],st=>st
 | t::r,st=>trs nm0 r (tr1 nm0 t st)
def G1(nm0:Nat)(σ:List (Nat×Nat))(Vd st:St):Prop:=match J8 nm0 σ Vd with|true=>aO (nc (LK Vd.nm σ st Vd.sl) (vqH Vd.nm σ st Vd.H))|false=>False
structure Cut where
 α:Type
 P:α->Prop
 J:α->St
 μ:α->Nat
def Cut.at_(c:Cut)(nm0:Nat)(st:St)(Q:c.α->Prop):Prop:=∃(a:c.α) (σ:List (Nat×Nat)) (t:List Tr),Q a∧c.P a∧G1 nm0 σ (c.J a) (trs nm0 t st)
def wQ:Code->Option Nat
 | .region id _ _=>some id
 | .seq x _=>wQ x
 | .block _ x=>wQ x
 | .loop x=>wQ x
 | _=>none
def cutAt(cuts:List Nat)(c:Code):Bool:=match wQ c with|none=>false|some id=>qM id cuts
def xK(K:Ex->St->Prop)(M:St->Prop):Ex->St->Prop
 | .normal,st=>M st
 | .exit i,st=>K (.exit i) st
 | .ret,st=>K .ret st
def unr(f:St->(Ex->St->Prop)->Prop):Nat->St->(Ex->St->Prop)->Prop
 | 0,_,_=>False
 | n+1,st,K=>f st (xK K λVd=>unr f n Vd K)
structure X1 where
 fl:List Nat
 cuts:List Nat
 invs:List Nat
 fu:Nat
def ev{PP:Program}{C:Cx PP}(Γ:List (UW C))(nt nm0:Nat)(I:Yj)(inls:List Nat)(h:X1):Code->St->(Ex->St->Prop)->Prop
 | .skip,st,K=>K .normal st
 | .region id ops draw,st,K=>oK Γ nt I inls (Pc h.fl id) (qM (1000+id) h.fl) ops draw st (K .normal)
 | .seq x y,st,K=>match cutAt h.cuts y with
  | false=>ev Γ nt nm0 I inls h x st (xK K λVd=>ev Γ nt nm0 I inls h y Vd K)
  | true=>∃c:Cut,ev Γ nt nm0 I inls h x st (xK K λVd=>c.at_ nm0 Vd λ_=>True)∧∀a,c.P a->ev Γ nt nm0 I inls h y (c.J a) K
 | .cond c x y,st,K=>match qv st.sl c with
  | some (.bl true)=>match cutAt h.cuts x with
   | false=>ev Γ nt nm0 I inls h x st K
   | true=>∃c:Cut,c.at_ nm0 st (λ_=>True)∧∀a,c.P a->ev Γ nt nm0 I inls h x (c.J a) K
  | some (.bl false)=>ev Γ nt nm0 I inls h y st K
  | some (.v (.bool b))=>match cutAt h.cuts x with
   | false=>(b=true->ev Γ nt nm0 I inls h x st K)∧(b=false->ev Γ nt nm0 I inls h y st K)
   | true=>(b=true->∃c:Cut,c.at_ nm0 st (λ_=>True)∧∀a,c.P a->ev Γ nt nm0 I inls h x (c.J a) K)∧(b=false->ev Γ nt nm0 I inls h y st K)
  | _=>False
 | .block id x,st,K=>ev Γ nt nm0 I inls h x st λe Vd=>match e with
  | .normal=>K .normal Vd
  | .exit i=>match Nat.beq i id with|true=>K .normal Vd|false=>K (.exit i) Vd
  | .ret=>K .ret Vd
 | .loop x,st,K=>match cutAt h.invs x with
  | false=>unr (λst K=>ev Γ nt nm0 I inls h x st K) h.fu st K
  | true=>∃c:Cut,c.at_ nm0 st (λ_=>True)∧∀a,c.P a->ev Γ nt nm0 I inls h x (c.J a) (xK K λVd=>c.at_ nm0 Vd λb=>c.μ b<c.μ a)
 | .exit id,st,K=>K (.exit id) st
 | .ret,st,K=>K .ret st
 | _,_,_=>False
def eB(fl:List Nat):Code->Bool
 | .region id ops draw=>C5 (Pc fl id) ops draw&&ops.toList.all MJ
 | .seq x y=>eB fl x&&eB fl y
 | .cond _ x y=>eB fl x&&eB fl y
 | .block _ x=>eB fl x
 | .loop x=>eB fl x
 | _=>true
theorem fS{b:Bool}{l m:List Prop}(h:eqO b l=some m):b=true∧m=l:=by unfold eqO at h;split at h;exact⟨rfl,(Oi h).symm⟩;cases h
theorem eK{a b:Option (List Prop)}{l:List Prop}(h:nc a b=some l):∃p q,a=some p∧b=some q∧l=p++q:=by unfold nc at h;split at h;exact⟨_,_,rfl,rfl,(Oi h).symm⟩;cases h
theorem fj{nm:Nat}{σ:List (Nat×Nat)}{n' n:Nat}(h:jZ nm σ n' n=true):n'<nm∧WX σ n'=n:=by unfold jZ at h;split at h;rename_i hb;rw[Nat.blt_eq] at hb;exact⟨hb,Nb h⟩;cases h
theorem pJ{σ:List (Nat×Nat)}{o m:Nat} : ∀{k:Nat},Fz σ o k=some m->m<k∧WX σ m=o
 | 0,h=>by cases h
 | k+1,h=>by simp only[Fz] at h;split at h;rename_i hb;obtain rfl:=Oi h;exact⟨Nat.lt_succ_self _,Nb hb⟩;have:=pJ h;exact⟨by omega,this.2⟩
theorem DG{σ:List (Nat×Nat)}{m:Nat} : ∀{k:Nat},m<k->∃m',Fz σ (WX σ m) k=some m'
 | 0,h=>by omega
 | k+1,h=>by simp only[Fz];split;exact⟨k,rfl⟩;rename_i hb;have:m≠k:=(by rintro rfl;rw[UN] at hb;cases hb);exact DG (by omega)
def Cu(nm:Nat)(σ:List (Nat×Nat)):Prop:=∀i j,i<nm->j<nm->WX σ i=WX σ j->i=j
theorem pX{nm n b:Nat}{σ:List (Nat×Nat)}{ρ:Names}(hn:n<nm)(h:ρ.n (WX σ n)=some b):(iP nm σ ρ).n n=some b:=by
 have hb:Nat.blt n nm=true:=by rw[Nat.blt_eq];exact hn
 simp only[iP,hb,h]
theorem iw{nm n b:Nat}{σ:List (Nat×Nat)}{ρ:Names}(h:(iP nm σ ρ).n n=some b):n<nm∧ρ.n (WX σ n)=some b:=by simp only[iP] at h;split at h;rename_i hb;rw[Nat.blt_eq] at hb;exact⟨hb,h⟩;cases h
theorem tF{nm e m:Nat}{l:LV}{σ:List (Nat×Nat)}{ρ:Names}(hi:Cu nm σ)(he:e<nm)(hm:m<nm)(h:ρ.v (WX σ e)=some l)(ho:l.o=WX σ m):(iP nm σ ρ).v e=some ⟨m,l.a,l.cap,l.N⟩:=by
 have hb:Nat.blt e nm=true:=by rw[Nat.blt_eq];exact he
 obtain⟨m',hm'⟩:=DG (σ:=σ) hm;have hmm:m'=m:=by obtain⟨h1,h2⟩:=pJ hm';exact hi m' m h1 hm h2
 subst hmm;simp only[iP,hb,h,ho,hm']
theorem gF{nm e:Nat}{l:LV}{σ:List (Nat×Nat)}{ρ:Names}(h:(iP nm σ ρ).v e=some l):e<nm∧l.o<nm∧∃l0,ρ.v (WX σ e)=some l0∧l0.o=WX σ l.o∧l.a=l0.a∧l.cap=l0.cap∧l.N=l0.N:=by simp only[iP] at h;split at h;rename_i hb;rw[Nat.blt_eq] at hb;split at h;rename_i l0 hl;split at h;rename_i o ho;obtain rfl:=Oi h;obtain⟨h1,h2⟩:=pJ ho;exact⟨hb,h1,l0,hl,h2.symm,rfl,rfl,rfl⟩;cases h;cases h;cases h
theorem tG{nm m i:Nat}{l:LV}{σ:List (Nat×Nat)}{ρ:Names}(hn:m<nm)(h:ρ.k (WX σ m) i=some l):(iP nm σ ρ).k m i=some l:=by
 have hb:Nat.blt m nm=true:=by rw[Nat.blt_eq];exact hn
 simp only[iP,hb,h]
theorem dM{nm m i:Nat}{l:LV}{σ:List (Nat×Nat)}{ρ:Names}(h:(iP nm σ ρ).k m i=some l):m<nm∧ρ.k (WX σ m) i=some l:=by simp only[iP] at h;split at h;rename_i hb;rw[Nat.blt_eq] at hb;exact⟨hb,h⟩;cases h
theorem mM{nm n b:Nat}{σ:List (Nat×Nat)}{ρ:Names}(h:bY (iP nm σ ρ) n b):n<nm∧bY ρ (WX σ n) b:=by
 rcases h with h|⟨e,l,o,h1,h2,h3,h4⟩|⟨i,l,o,h1,h3,h4⟩
 obtain⟨k1,k2⟩:=iw h;exact⟨k1,.inl k2⟩;obtain⟨k1,k2,l0,k3,k4,k5,k6,k7⟩:=gF h1;subst h2;exact⟨k2,.inr (.inl ⟨_,l0,o,k3,k4,by rw[<-k6];exact h3,by rw[<-k5];exact h4⟩)⟩;obtain⟨k1,k2⟩:=dM h1;exact⟨k1,.inr (.inr ⟨i,l,o,k2,h3,h4⟩)⟩
theorem mL(nm:Nat)(σ:List (Nat×Nat))(ρ:Names):(iP nm σ ρ.zo).le (iP nm σ ρ).zo:=
 ⟨λn b h=>(by obtain⟨-,h⟩:=iw h;cases h),λn b h=>(by obtain⟨-,-,l,h,-⟩:=gF h;cases h),λn i b h=>(by obtain⟨-,h⟩:=dM h;cases h),λ_ _ _ h=>h⟩
theorem HA{k:IntKind}{a:Int}{x:SV}{l:List Prop}{ρ:Names}{y:Value}(h:vqI k a x=some l)(hc:aA l)(hd:den ρ x y):y=.int k a:=by unfold vqI at h;split at h;cases h;rename_i k' b hx;obtain⟨hk,rfl⟩:=fS h;have hc:a=b:=hc;rw[SV.int?_den hx hd,hc,eL hk]
theorem HD{a:Bool}{x:SV}{l:List Prop}{ρ:Names}{y:Value}(h:vqB a x=some l)(hc:aA l)(hd:den ρ x y):y=.bool a:=by unfold vqB at h;split at h;cases h;rename_i b hx;obtain rfl:=Oi h;have hc:a=b:=hc;rw[SV.bool?_den hx hd,hc]
theorem Pu{z:Value}{x:SV}{l:List Prop}{ρ:Names}{y:Value}(h:vqV z x=some l)(hc:aA l)(hd:den ρ x y):y=z:=by unfold vqV at h;split at h;obtain rfl:=Oi h;have hc:z=_:=hc;rw[hc];exact hd;cases h
mutual
theorem xH{nm:Nat}{σ:List (Nat×Nat)}(hi:Cu nm σ):∀(v' v:SV) (l:List Prop),vq nm σ v' v=some l->aA l->∀(ρ:Names) (y:Value),den ρ v y->den (iP nm σ ρ) v' y
 | .v z,x,l,h,hc,ρ,y,hd=>by
  cases z
  case int k b=>exact HA h hc hd
  case bool b=>exact HD h hc hd
  all_goals exact Pu h hc hd
 | .il k b,x,l,h,hc,ρ,y,hd=>HA h hc hd
 | .bl b,x,l,h,hc,ρ,y,hd=>HD h hc hd
 | .p n off,x,l,h,hc,ρ,y,hd=>by simp only[vq] at h;split at h;split at h;rename_i hn;obtain⟨ho,-⟩:=fS h;have ho:=Nb ho;obtain⟨h1,rfl⟩:=fj hn;obtain⟨b,e1,e2⟩:=hd;exact⟨b,pX h1 e1,by rw[ho];exact e2⟩;cases h;cases h
 | .s n sz off len cap,x,l,h,hc,ρ,y,hd=>by simp only[vq] at h;split at h;split at h;rename_i hn b1 b2 b3;obtain⟨b4,-⟩:=fS h;have b2:=Nb b2;have b3:=Nb b3;have b4:=Nb b4;obtain⟨h1,rfl⟩:=fj hn;obtain⟨b,e1,e2⟩:=hd;exact⟨b,pX h1 e1,by rw[b2,b3,b4];exact e2⟩;cases h;cases h
 | .f fn p q,x,l,h,hc,ρ,y,hd=>by simp only[vq] at h;split at h;obtain⟨l1,l2,h1,h2,rfl⟩:=eK h;obtain⟨l3,l4,h3,h4,rfl⟩:=eK h2;obtain rfl:=Oi h1;obtain⟨c1,c2⟩:=b7 hc;obtain⟨c3,c4⟩:=b7 c2;obtain⟨u,w,e1,e2,e3⟩:=hd;have c1:fn=_:=c1;exact⟨u,w,iz hi p _ l3 h3 c3 ρ u e1,iz hi q _ l4 h4 c4 ρ w e2,by rw[c1];exact e3⟩;cases h
 | .agg m,x,l,h,hc,ρ,y,hd=>by simp only[vq] at h;split at h;obtain⟨u,e1,e2⟩:=hd;exact⟨u,iz hi m _ l h hc ρ u e1,e2⟩;cases h
 | .tup m,x,l,h,hc,ρ,y,hd=>by simp only[vq] at h;split at h;obtain⟨u,e1,e2⟩:=hd;exact⟨u,iz hi m _ l h hc ρ u e1,e2⟩;cases h
 | .e,x,l,h,hc,ρ,y,hd=>by simp only[vq] at h;split at h;exact hd;obtain rfl:y=_:=hd;exact⟨_,rfl⟩;cases h
 | .rs sz n f,x,l,h,hc,ρ,y,hd=>by
  simp only[vq] at h;split at h
  ·obtain⟨hb,rfl⟩:=fS h;have hb:=Nb hb;obtain⟨c1,c2⟩:=dj hc;subst c1 hb;obtain⟨a,cap,e1,e2,e3⟩:=hd;refine⟨a,cap,e1,e2,λi VZ=>?_⟩;obtain⟨b,o,u,k1,k2,k3⟩:=e3 i VZ;have YF:=(show ∀i,i<n->_ from c2) i VZ;refine⟨b,o,u,k1,?_,k3⟩;generalize hq:Vu nm σ (f i) _=q at YF;cases q with
   | none=>exact YF.elim
   | some q=>exact aJ (mL nm σ ρ) _ _ (iz hi (f i) _ q hq YF ρ.zo u k2)
  obtain rfl:=Oi h;have hc:n=0:=hc;subst hc;obtain⟨a,rfl⟩:=hd;exact⟨a,0,rfl,I' _,λi VZ=>Uw VZ (by omega)⟩;obtain rfl:=Oi h;have hc:n=0:=hc;subst hc;obtain rfl:y=_:=hd;exact⟨none,0,rfl,I' _,λi VZ=>Uw VZ (by omega)⟩;cases h
 | .rp m off,x,l,h,hc,ρ,y,hd=>by simp only[vq] at h;split at h;obtain⟨l1,l2,h1,h2,rfl⟩:=eK h;obtain rfl:=Oi h1;obtain⟨c1,c2⟩:=b7 hc;have c1:off=_:=c1;obtain⟨b,o,u,e1,e2,e3⟩:=hd;exact⟨b,o,u,by rw[c1];exact e1,aJ (mL nm σ ρ) _ _ (iz hi m _ l2 h2 c2 ρ.zo u e2),e3⟩;cases h
 | .g m e sz off n,x,l,h,hc,ρ,y,hd=>by simp only[vq] at h;split at h;split at h;rename_i hm he;obtain⟨hb,rfl⟩:=fS h;have hb:=Nb hb;obtain⟨c1,c2⟩:=dj hc;have c2:n=_:=c2;subst c1 c2 hb;obtain⟨m1,rfl⟩:=fj hm;obtain⟨m2,rfl⟩:=fj he;obtain⟨lv,e1,e2,e3,e4,e5⟩:=hd;exact⟨_,tF hi m2 m1 e1 e2,rfl,e3,e4,e5⟩;cases h;cases h
 | .gp m e sz i off,x,l,h,hc,ρ,y,hd=>by simp only[vq] at h;split at h;split at h;rename_i hm he;obtain⟨hb,rfl⟩:=fS h;have hb:=Nb hb;obtain⟨c1,c2⟩:=dj hc;have c2:off=_:=c2;subst c1 c2 hb;obtain⟨m1,rfl⟩:=fj hm;obtain⟨m2,rfl⟩:=fj he;obtain⟨lv,b,e1,e2,e3,e4,e5,e6⟩:=hd;exact⟨_,b,tF hi m2 m1 e1 e2,rfl,e3,e4,e5,e6⟩;cases h;cases h
 | .m n,x,l,h,hc,ρ,y,hd=>by simp only[vq] at h;split at h;split at h;rename_i hm;obtain⟨m1,rfl⟩:=fj hm;obtain⟨b,e1,e2⟩:=hd;exact⟨b,pX m1 e1,e2⟩;cases h;cases h
 | .kd m i sz off n,x,l,h,hc,ρ,y,hd=>by simp only[vq] at h;split at h;split at h;rename_i hm;obtain⟨hb,rfl⟩:=fS h;have hb:=Nb hb;obtain⟨c1,c2⟩:=dj hc;obtain⟨c2,c3⟩:=dj c2;have c3:n=_:=c3;subst c1 c2 c3 hb;obtain⟨m1,rfl⟩:=fj hm;obtain⟨lv,e1,e2⟩:=hd;exact⟨lv,tG m1 e1,e2⟩;cases h;cases h
 | .kq m i sz j off,x,l,h,hc,ρ,y,hd=>by simp only[vq] at h;split at h;split at h;rename_i hm;obtain⟨hb,rfl⟩:=fS h;have hb:=Nb hb;obtain⟨c1,c2⟩:=dj hc;obtain⟨c2,c3⟩:=dj c2;have c3:off=_:=c3;subst c1 c2 c3 hb;obtain⟨m1,rfl⟩:=fj hm;obtain⟨lv,b,e1,e2⟩:=hd;exact⟨lv,b,tG m1 e1,e2⟩;cases h;cases h
theorem iz{nm:Nat}{σ:List (Nat×Nat)}(hi:Cu nm σ):∀(v' v:List SV) (l:List Prop),Vu nm σ v' v=some l->aA l->∀(ρ:Names) (y:List Value),ao ρ v y->ao (iP nm σ ρ) v' y
 | [],x,l,h,hc,ρ,y,hd=>by
  cases x with
  | nil=>exact hd
  | cons _ _=>cases h
 | v'::r,x,l,h,hc,ρ,y,hd=>by
  cases x with
  | nil=>cases h
  | cons x s=>
   obtain⟨l1,l2,h1,h2,rfl⟩:=eK h;obtain⟨c1,c2⟩:=b7 hc;obtain⟨a,b,e1,e2,e3⟩:=hd;exact⟨a,b,e1,xH hi v' x l1 h1 c1 ρ a e2,iz hi r s l2 h2 c2 ρ b e3⟩
end
theorem CP{nm:Nat}{σ:List (Nat×Nat)}{st:St} : ∀{l:List (Nat×Slot)} {p:List Prop},LK nm σ st l=some p->aA p->∀t s',look l t=some s'->∃s q,look st.sl t=some s∧s.g=[]∧vq nm σ s'.v s.v=some q∧aA q
 | [],_,_,_,t,s',h=>by cases h
 | (u,x)::r,p,h,hc,t,s',hs=>by simp only[LK] at h;split at h;cases h;rename_i s hl;split at h;rename_i hg _;obtain⟨l1,l2,h1,h2,rfl⟩:=eK h;obtain⟨c1,c2⟩:=b7 hc;by_cases e:u=t;subst e;rw[aj] at hs;obtain rfl:=Oi hs;exact⟨s,l1,hl,hg,h1,c1⟩;rw[ah _ _ e] at hs;exact CP h2 c2 t s' hs;cases h
theorem HC{nm:Nat}{σ:List (Nat×Nat)}{st:St} : ∀{l:bc} {p:List Prop},vqH nm σ st l=some p->aA p->∀n VC,look l n=some VC->n<nm∧∃sb q,look st.H (WX σ n)=some sb∧AP nm σ n VC sb=some q∧aA q
 | [],_,_,_,t,s',h=>by cases h
 | (u,x)::r,p,h,hc,t,s',hs=>by simp only[vqH] at h;split at h;rename_i sb hl hb;rw[Nat.blt_eq] at hb;obtain⟨l1,l2,h1,h2,rfl⟩:=eK h;obtain⟨c1,c2⟩:=b7 hc;by_cases e:u=t;subst e;rw[aj] at hs;obtain rfl:=Oi hs;exact⟨hb,sb,l1,hl,h1,c1⟩;rw[ah _ _ e] at hs;exact HC h2 c2 t s' hs;cases h
theorem CQ{nm:Nat}{σ:List (Nat×Nat)}(hi:Cu nm σ){ρ:Names}{z:Value} : ∀{a b:List SV} {p:Nat} {q:List Prop} {us:List Value},Vu nm σ (a.set p .e) (b.set p .e)=some q->aA q->ao ρ (b.set p (.v z)) us->ao (iP nm σ ρ) (a.set p (.v z)) us
 | [],b,p,q,us,h,hc,hd=>by
  cases b with
  | nil=>exact hd
  | cons y s=>cases p<;>cases h
 | x::r,b,p,q,us,h,hc,hd=>by
  cases b with
  | nil=>cases p<;>cases h
  | cons y s=>
   cases p with
   | zero=>
    obtain⟨l1,l2,h1,h2,rfl⟩:=eK h;obtain⟨c1,c2⟩:=b7 hc;obtain⟨a,b,e1,e2,e3⟩:=hd;exact⟨a,b,e1,e2,iz hi r s l2 h2 c2 ρ b e3⟩
   | succ p=>
    obtain⟨l1,l2,h1,h2,rfl⟩:=eK h;obtain⟨c1,c2⟩:=b7 hc;obtain⟨a,b,e1,e2,e3⟩:=hd;exact⟨a,b,e1,xH hi x y l1 h1 c1 ρ a e2,CQ hi h2 c2 e3⟩
theorem Pv{nm n:Nat}{σ:List (Nat×Nat)}(hi:Cu nm σ)(hn:n<nm){e sz N N' p Vk:Nat}{h h':Nat->List SV}{g g':Nat->Nat×(Nat->List SV)}{tk t:TypeId}(he:e<nm){ρ:Names}{W:World}(c1:N=N')(c2:∀i,i<N'->aO (Vu nm σ ((h i).set p .e) ((h' i).set p .e)))
  (c3:∀i,i<N'->(g i).1=(g' i).1) (c4:∀i,i<N'->∀j,j<(g' i).1->aO (Vu nm σ ((g i).2 j) ((g' i).2 j))) (hd:c8 ρ W (WX σ n) (.nst (WX σ e) sz N' h' p Vk g' tk t none)):c8 (iP nm σ ρ) W n (.nst e sz N h p Vk g tk t none):=by
 subst c1;obtain⟨l,K⟩:=hd;refine⟨_,tF hi he hn K.hv K.ho,rfl,K.hN,K.hle,λVR=>?_,λi VZ=>?_,λi VZ=>?_,λi j q r b h1 h2=>K.ne i j q r b (dM h1).2 (dM h2).2⟩
 ·obtain⟨b,u,k1,k2,k3,k4,k5,k6,-,k8⟩:=K.row VR;refine⟨b,u,k1,k2,k3,k4,k5,λi VZ=>?_,(λcs XF=>by cases XF),λi q b' h1=>k8 i q b' (dM h1).2⟩;obtain⟨q,us,q1,q2,q3⟩:=k6 i VZ;refine⟨q,us,tG hn q1,?_,q3⟩;have YF:=c2 i VZ;generalize hq:Vu nm σ _ _=x at YF;cases x with
  | none=>exact YF.elim
  | some x=>exact aJ (mL nm σ ρ) _ _ (CQ hi hq YF q2)
 ·obtain⟨q,q1,q2,q3⟩:=K.kid i VZ;refine⟨q,tG hn q1,by rw[c3 i VZ];exact q2,q3.1,λhc=>?_⟩;obtain⟨b,u,k1,k2,k3,k4,k5,k6⟩:=q3.2 hc;refine⟨b,u,k1,k2,k3,k4,k5,λj hj=>?_⟩;obtain⟨us,p1,p2⟩:=k6 j hj;refine⟨us,?_,p2⟩;have YF:=c4 i VZ j (by omega);generalize hq:Vu nm σ _ _=x at YF;cases x with
  | none=>exact YF.elim
  | some x=>exact aJ (mL nm σ ρ) _ _ (iz hi _ _ x hq YF ρ.zo us p1)
 cases hk:(iP nm σ ρ).k n i with
 | none=>rfl
 | some l=>
  have:=(dM hk).2;rw[K.no i VZ] at this;cases this
theorem LL{nm n:Nat}{σ:List (Nat×Nat)}(hi:Cu nm σ)(hn:n<nm){VC sb:SB}{q:List Prop}(h:AP nm σ n VC sb=some q)(hc:aA q){ρ:Names}{W:World}(hd:c8 ρ W (WX σ n) sb):c8 (iP nm σ ρ) W n VC:=by
 cases VC with
 | gone=>trivial
 | mp k ag has g=>
  simp only[AP] at h;split at h
  ·split at h
   ·rename_i hk ha;obtain rfl:=Oi h;obtain rfl:=eL hk;obtain rfl:=uJ ha;obtain⟨c1,c2⟩:=dj hc;obtain rfl:has=_:=funext c1;obtain⟨b,es,cl,h1,h2,h3,h4⟩:=hd;refine⟨b,es,cl,pX hn h1,h2,h3,λx hx=>?_,h4.yes⟩;obtain⟨m,q1,q2,u,q3,q4⟩:=h4.keys x hx;have YF:=(show ∀j,has j=true->_ from c2) m q2;refine⟨m,q1,q2,u,?_,q4⟩;generalize hq:Vu nm σ (g m) _=q at YF;cases q with
    | none=>exact YF.elim
    | some q=>exact aJ (mL nm σ ρ) _ _ (iz hi (g m) _ q hq YF ρ.zo u q3)
   cases h
  cases h
 | lay cs t=>
  simp only[AP] at h;split at h;split at h;rename_i hb;have hb:=Nb hb;subst hb;obtain⟨b,vs,h1,h2,h3,h4,h5⟩:=hd;exact⟨b,vs,pX hn h1,iz hi cs _ q h hc ρ vs h2,h3,h4,h5⟩;cases h;cases h
 | lst e sz N f t=>
  simp only[AP] at h;split at h
  ·split at h
   ·rename_i he hs;obtain⟨hb,rfl⟩:=fS h;have hb:=Nb hb;have hs:=Nb hs;obtain⟨c1,c2⟩:=dj hc;subst hb hs c1;obtain⟨m2,rfl⟩:=fj he;obtain⟨l,h1,h2,h3,h4,h5⟩:=hd;refine⟨_,tF hi m2 hn h1 h2,rfl,h3,h4,λVR=>?_⟩;obtain⟨b,u,k1,k2,k3,k4,k5,k6⟩:=h5 VR;refine⟨b,u,k1,k2,k3,k4,k5,λi VZ=>?_⟩;obtain⟨us,q1,q2⟩:=k6 i VZ;have YF:=(show ∀i,i<N->_ from c2) i VZ;refine⟨us,?_,q2⟩;generalize hq:Vu nm σ (f i) _=q at YF;cases q with
    | none=>exact YF.elim
    | some q=>exact aJ (mL nm σ ρ) _ _ (iz hi (f i) _ q hq YF ρ.zo us q1)
   cases h
  cases h
 | nst e sz N f p Vk g tk t last=>
  simp only[AP] at h;split at h;split at h;rename_i ZX hl2 he hs hp hsk Wz;obtain⟨hb,rfl⟩:=fS h;have hb:=Nb hb;have hs:=Nb hs;have hp:=Nb hp;have hsk:=Nb hsk;have Wz:=Nb Wz;obtain⟨c1,c2⟩:=dj hc;obtain⟨c2,c3⟩:=dj c2;obtain⟨c3,c4⟩:=dj c3;subst hb hs hp hsk Wz;obtain⟨m2,rfl⟩:=fj he;exact Pv hi hn m2 c1 c2 c3 c4 hd;cases h;cases h
theorem pO{σ:List (Nat×Nat)}{m:Nat} : ∀{k:Nat},wT σ m k=true->∀i,i<k->WX σ i≠WX σ m
 | 0,_,i,hi=>by omega
 | k+1,h,i,hi=>by simp only[wT] at h;split at h;cases h;rename_i hb;rcases UK (Nat.le_of_lt_succ hi) with rfl|hi;intro e;rw[e,UN] at hb;cases hb;exact pO h i hi
theorem DI{σ:List (Nat×Nat)} : ∀{k:Nat},M4 σ k=true->∀i j,i<k->j<k->WX σ i=WX σ j->i=j
 | 0,_,i,j,hi,_,_=>by omega
 | k+1,h,i,j,hi,hj,e=>by simp only[M4] at h;split at h;rename_i hf;rcases UK (Nat.le_of_lt_succ hi) with rfl|hi;rcases UK (Nat.le_of_lt_succ hj) with rfl|hj;rfl;exact Uw e.symm (pO hf j hj);rcases UK (Nat.le_of_lt_succ hj) with rfl|hj;exact Uw e (pO hf i hi);exact DI h i j hi hj e;cases h
theorem DY{σ:List (Nat×Nat)} : ∀{k:Nat},Ni σ k=true->∀i,i<k->WX σ i=i
 | 0,_,i,hi=>by omega
 | k+1,h,i,hi=>by simp only[Ni] at h;split at h;rename_i hb;rcases UK (Nat.le_of_lt_succ hi) with rfl|hi;exact Nb hb;exact DY h i hi;cases h
theorem Bg{rg:Nat} : ∀{l:List (Nat×Slot)},rgB rg l=true->∀t s,look l t=some s->s.rg<=rg
 | [],_,t,s,h=>by cases h
 | (u,x)::r,h,t,s,hs=>by simp only[rgB] at h;split at h;rename_i hb;by_cases e:u=t;subst e;rw[aj] at hs;obtain rfl:=Oi hs;exact L' hb;rw[ah _ _ e] at hs;exact Bg h t s hs;cases h
section
variable {PP:Program}{C:Cx PP}{Γ:List (UW C)}{nt:Nat}{w0:World}{UT:Names}{I:Yj}{inls:List Nat}
def Lh{PP:Program}(C:Cx PP)(nt:Nat)(w0:World)(UT:Names)(c:Code)(st:St)(K:Ex->St->Prop):Prop:=
 ∀ρ a W,Rp C nt w0 UT st ρ a W->wpR C.P C.co c (λe a' W'=>∃x Vd US,e=Ex.to x∧K x Vd∧Rp C nt w0 UT Vd US a' W') a W
theorem gN{st:St}{ρ:Names}{a:Act}{W:World}(h:Rp C nt w0 UT st ρ a W){x:Operand}{v:SV}(e:qv st.sl x=some v):den ρ v (a.eval x):=by rw[Fc] at e;split at e;obtain rfl:=Oi e;exact jG;obtain rfl:=Oi e;rfl;obtain rfl:=Oi e;rfl;split at e;cases e;rename_i s hs;split at e;rename_i hg;obtain rfl:=Oi e;obtain⟨y,h1,h2⟩:=h.cC _ s hs hg;rw[aW h2];exact h1;cases e
theorem G1.rp{nm0:Nat}{σ:List (Nat×Nat)}{st Vd:St}{ρ:Names}{a:Act}{W:World}(Vl:∀n b,UT.n n=some b->n<nm0)(U3:∀e l,UT.v e=some l->e<nm0∧l.o<nm0)(U4:∀m i l,UT.k m i=some l->m<nm0)(h:G1 nm0 σ Vd st)(hr:Rp C nt w0 UT st ρ a W):Rp C nt w0 UT Vd (iP Vd.nm σ ρ) a W:=by
 unfold G1 at h;split at h
 rotate_left
 exact h.elim;rename_i h1;generalize hq:nc _ _=q at h;cases q with
 | none=>exact h.elim
 | some q=>
 obtain⟨l1,l2,h2,h3,rfl⟩:=eK hq;obtain⟨d1,d2⟩:=b7 h;unfold J8 at h1;split at h1;rename_i c1 c2 c3 c4;have c1:=L' c1;have c2:Cu Vd.nm σ:=DI c2;have c3:=DY c3;have c4:=Bg c4;have hm:=hr.base.mem;refine⟨⟨⟨⟨λn n' b k1 k2=>?_,λn b k=>hm.hb.low _ b (mM k).2,hm.hb.zok,hm.hb.grd⟩,λn b k=>(iw k).1,λe l k=>⟨(gF k).1,(gF k).2.1⟩,λm i l k=>(dM k).1,⟨λn b k=>?_,λe l k=>?_,λm i l k=>?_,hm.le.z⟩,λn b k=>?_,hm.zold,hm.keep⟩,λn sb hn=>?_,hr.base.sz,hr.base.df⟩,c4,λt s hs hg=>?_⟩;obtain⟨q1,q2⟩:=mM k1;obtain⟨q3,q4⟩:=mM k2;exact c2 n n' q1 q3 (hm.hb.own _ _ b q2 q4);have:=Vl n b k;exact pX (by omega) (by rw[c3 n this];exact hm.le.n n b k);obtain⟨q1,q2⟩:=U3 e l k;have:=tF (nm:=Vd.nm) (σ:=σ) (ρ:=ρ) (e:=e) (m:=l.o) (l:=l) c2 (by omega) (by omega) (by rw[c3 e q1];exact hm.le.v e l k) (by rw[c3 _ q2]);exact this;have:=U4 m i l k;exact tG (by omega) (by rw[c3 m this];exact hm.le.k m i l k);exact hm.old _ b (mM k).2;obtain⟨k1,sb2,q,k2,k3,k4⟩:=HC h3 d2 n sb hn;exact LL c2 k1 k3 k4 (hr.base.blk _ sb2 k2);obtain⟨s2,q,k1,k2,k3,k4⟩:=CP h2 d1 t s hs;obtain⟨x,k5,k6⟩:=hr.cC t s2 k1 k2;exact⟨x,xH c2 _ _ q k3 k4 ρ x k5,k6⟩;cases h1
theorem xW{l:List Value}{i:Nat}{y:Value}(h:l[i]? = some y):l.set i y=l:=by apply List.ext_getElem?;intro j;by_cases e:i=j;subst e;rw[List.getElem?_set_self (J'.1 h).1,h];rw[List.getElem?_set_ne e]
theorem pQ{v:SV}{ρ:Names}{y:Value}(h:tu v=true)(hd:den ρ v y):∃a,y=.slice a 0 0:=by unfold tu at h;split at h;exact hd;exact⟨_,hd⟩;cases h
theorem nL{m:Nat}{sb:SB}{t:Nat} : ∀{l:List (Nat×Slot)},look (yY m sb l) t=(look l t).map λs=>⟨s.rg,s.k,s.g,uq m sb s.v⟩
 | []=>rfl
 | (u,s)::r=>by by_cases he:u=t;subst he;simp only[yY,aj];rfl;simp only[yY,ah _ _ he];exact nL
theorem vd{m:Nat}{sb:SB}{t:Nat} : ∀{l:bc},look (JC m sb l) t=(look l t).map λs=>Pe m sb s
 | []=>rfl
 | (u,s)::r=>by by_cases he:u=t;subst he;simp only[JC,aj];rfl;simp only[JC,ah _ _ he];exact vd
def E9(ρ:Names)(W:World)(m:Nat):Nat->Nat->Value->Prop:=λb i c=>bY ρ m b∧W.cell? ⟨b,i,none⟩=some c∧c.oneCell'=true
theorem na{ρ:Names}{W:World}{n e sz N p Vk:Nat}{h:Nat->List SV}{g:Nat->Nat×(Nat->List SV)}{tk t:TypeId}{last:Option (List SV)}{Z:Nat->Nat->Value->Prop}(hc:c8 ρ W n (.nst e sz N h p Vk g tk t last))(hz:∀b i c,bY ρ n b->¬Z b i c):c8 (ρ.km Z) W n (.nst e sz N h p Vk g tk t last):=by
 obtain⟨l,K⟩:=hc;refine⟨l,K.hv,K.ho,K.hN,K.hle,λVR=>?_,λi hi=>?_,K.no,K.ne⟩
 ·obtain⟨b,u,k1,k2,k3,k4,k5,k6,k7,k8⟩:=K.row VR;exact⟨b,u,k1,k2,k3,k4,λi c Wc=>by
   rcases Wc with Wc|Wc;exact k5 i c Wc
   ·exact hz b i c (.inr (.inl ⟨e,l,0,K.hv,K.ho,VR,k1⟩)) Wc,λi hi=>let ⟨q,us,q1,q2,q3⟩:=k6 i hi;⟨q,us,q1,aJ (Names.le.zo Names.bw) _ _ q2,q3⟩,λcs XF=>let ⟨us,q1,q2⟩:=k7 cs XF;⟨us,aJ Names.bw _ _ q1,q2⟩,k8⟩
 obtain⟨q,q1,q2,q3,q4⟩:=K.kid i hi;refine⟨q,q1,q2,q3,λVR=>?_⟩;obtain⟨b,u,k1,k2,k3,k4,k5,k6⟩:=q4 VR;exact⟨b,u,k1,k2,k3,k4,λi' c Wc=>by
  rcases Wc with Wc|Wc;exact k5 i' c Wc
  ·exact hz b i' c (.inr (.inr ⟨i,q,0,q1,VR,k1⟩)) Wc,λi hi=>let ⟨us,q1,q2⟩:=k6 i hi;⟨us,aJ (Names.le.zo Names.bw) _ _ q1,q2⟩⟩
mutual
theorem DV{H:bc}{ρ:Names}{W:World}{m:Nat}{sb:SB}(hH:VY C H ρ W)(hk:look H m=some sb)(hp:JB sb=true):∀(x:SV) (v:Value),den ρ x v->den (ρ.km (E9 ρ W m)) (uq m sb x) v
 | .v _,_,hd=>hd
 | .il _ _,_,hd=>hd
 | .bl _,_,hd=>hd
 | .e,_,hd=>hd
 | .m n,v,hd=>bM (ρ:=ρ) Names.bw (.m n) v hd
 | .rs sz n f,v,hd=>bM (ρ:=ρ) Names.bw (.rs sz n f) v hd
 | .rp x off,v,hd=>bM (ρ:=ρ) Names.bw (.rp x off) v hd
 | .agg l,v,⟨u,e1,e2⟩=>⟨u,mF hH hk hp l u e1,e2⟩
 | .tup l,v,⟨u,e1,e2⟩=>⟨u,mF hH hk hp l u e1,e2⟩
 | .f fn x y,v,⟨u,w,e1,e2,e3⟩=>⟨u,w,mF hH hk hp x u e1,mF hH hk hp y w e2,e3⟩
 | .p n off,v,hd=>by have hold:den (ρ.km (E9 ρ W m)) (.p n off) v:=hd;simp only[uq];unfold SQ;split;rename_i cs t b1;have b1:=Nb b1;subst b1;obtain⟨b,e1,e2⟩:=hd;obtain⟨b',vs,k1,k2,k3,k4,k5⟩:=hH.blk n _ hk;rw[e1] at k1;obtain rfl:=Oi k1;exact⟨b,0,vs,by rw[B'];exact e2,aJ (Names.le.zo Names.bw) _ _ (cK _ _ hp k2),λk c hc=>.inr ⟨.inl e1,by rw[B',k3.cell];simpa using hc,k4 c (UM hc)⟩⟩;exact hold
 | .s n sz off len cap,v,hd=>by have hold:den (ρ.km (E9 ρ W m)) (.s n sz off len cap) v:=hd;simp only[uq];unfold SU;split;rename_i cs t b0;have b0:=Nb b0;subst b0;split;rename_i b1 b2;have b1:=L' b1;have b2:=L' b2;obtain⟨b,e1,e2⟩:=hd;obtain⟨b',vs,k1,k2,k3,k4,k5⟩:=hH.blk n _ hk;rw[e1] at k1;obtain rfl:=Oi k1;have hd:=aJ (Names.le.zo Names.bw) _ _ (cK _ _ hp k2) (US:=(ρ.km (E9 ρ W n)).zo);have hlen:=aF hd;refine⟨_,_,e2,b2,λi hi=>⟨b,off,_,rfl,kh sz i (bX off hd),?_,λk c hc=>?_⟩⟩;have:i*sz+sz<=len*sz:=(by rw[<-Nat.succ_mul];exact UG _ hi);simp only[List.length_take,List.length_drop];omega;rw[List.getElem?_take] at hc;split at hc;rw[List.getElem?_drop,List.getElem?_drop] at hc;refine .inr ⟨.inl e1,?_,k4 c (UM hc)⟩;rw[k3.cell];simpa[Nat.add_assoc] using hc;cases hc;exact hold;exact hold
 | .g m' e' Vi off n,v,hd=>by simp only[uq];unfold SS;split;rename_i e sz N h t b1;have b1:=Nb b1;subst b1;split;rename_i b2 b3;have b2:=Nb b2;have b3:=Nb b3;subst b2 b3;obtain⟨a',cap,e1,e2,e3⟩:=mA hH hk hd;exact⟨a',cap,e1,e2,λi hi=>let ⟨b,o,us,k1,k2,k3,k4,k5⟩:=e3 i hi;⟨b,o,us,k1,aJ (Names.le.zo Names.bw) _ _ k2,k3,λk c hc=>.inr ⟨k5,k4 k c hc⟩⟩⟩;exact bM Names.bw _ _ hd;rename_i e sz N h p Vk g tk t b1;have b1:=Nb b1;subst b1;split;rename_i b2 b3;have b2:=Nb b2;have b3:=Nb b3;subst b2 b3;obtain⟨a',cap,e1,e2,e3⟩:=pA hH hk hd;exact⟨a',cap,e1,e2,λi hi=>let ⟨b,o,us,q,k1,f1,f2,f3,k2,k3,k4,k5⟩:=e3 i hi;⟨b,o,us,k1,wq f1 f2 f3 (λb i c h1 h2 h3=>.inr ⟨h3,h1,h2⟩) (Names.le.zo Names.bw) k2,k3,λk c hc=>.inr ⟨k5,k4 k c hc⟩⟩⟩;exact bM Names.bw _ _ hd;exact bM Names.bw _ _ hd
 | .gp m' e' Vi i off,v,hd=>by simp only[uq];unfold Pf;split;rename_i e sz N h t b1;have b1:=Nb b1;subst b1;split;rename_i b2 b3;have b2:=Nb b2;have b3:=Nb b3;subst b2 b3;obtain⟨b,us,e1,e2,e3,e4,e5⟩:=wH hH hk hd;exact⟨b,i*Vi,us,e1,aJ (Names.le.zo Names.bw) _ _ e2,λk c hc=>.inr ⟨e5,e4 k c hc⟩⟩;exact bM Names.bw _ _ hd;rename_i e sz N h p Vk g tk t b1;have b1:=Nb b1;subst b1;split;rename_i b2 b3;have b2:=Nb b2;have b3:=Nb b3;subst b2 b3;obtain⟨b,us,q,e1,f1,f2,f3,e2,e3,e4,e5⟩:=wo hH hk hd;exact⟨b,i*Vi,us,e1,wq f1 f2 f3 (λb i c h1 h2 h3=>.inr ⟨h3,h1,h2⟩) (Names.le.zo Names.bw) e2,λk c hc=>.inr ⟨e5,e4 k c hc⟩⟩;exact bM Names.bw _ _ hd;exact bM Names.bw _ _ hd
 | .kd m' i Vi off n,v,hd=>by simp only[uq];unfold SR;split;rename_i e sz N h p Vk g tk t b1;have b1:=Nb b1;subst b1;split;rename_i b2;have b2:=Nb b2;subst b2;obtain⟨a',cap,e1,e2,e3⟩:=pH hH hk hd;exact⟨a',cap,e1,e2,λi hi=>let ⟨b,o,us,k1,k2,k3,k4,k5⟩:=e3 i hi;⟨b,o,us,k1,aJ (Names.le.zo Names.bw) _ _ k2,k3,λk c hc=>.inr ⟨k5,k4 k c hc⟩⟩⟩;exact bM Names.bw _ _ hd;exact bM Names.bw _ _ hd
 | .kq m' i Vi j off,v,hd=>by simp only[uq];unfold SP;split;rename_i e sz N h p Vk g tk t b1;have b1:=Nb b1;subst b1;split;rename_i b2;have b2:=Nb b2;subst b2;obtain⟨b,us,e1,f1,f2,e2,e3,e4,e5⟩:=wL hH hk hd;exact⟨b,j*Vi,us,e1,aJ (Names.le.zo Names.bw) _ _ e2,λk c hc=>.inr ⟨e5,e4 k c hc⟩⟩;exact bM Names.bw _ _ hd;exact bM Names.bw _ _ hd
theorem mF{H:bc}{ρ:Names}{W:World}{m:Nat}{sb:SB}(hH:VY C H ρ W)(hk:look H m=some sb)(hp:JB sb=true):∀(x:List SV) (v:List Value),ao ρ x v->ao (ρ.km (E9 ρ W m)) (BI m sb x) v
 | [],_,hd=>hd
 | x::r,v,⟨a,b,e1,e2,e3⟩=>⟨a,b,e1,DV hH hk hp x a e2,mF hH hk hp r b e3⟩
end
def Names.bE(ρ:Names)(M N m1:Nat)(q:LV):Names:=
 ⟨λn=>if n=m1 then none else ρ.n n,
 λe=>match ρ.v e with|some l=>if l.o=m1 then none else some l|none=>none,
 λm i=>if m=M∧i=N then some q else if m=m1 then none else ρ.k m i,
 ρ.z,ρ.d,ρ.o⟩
section
variable {ρ:Names}{M N m1:Nat}{q:LV}
theorem ku{n b:Nat}(hn:n≠m1)(h:ρ.n n=some b):(ρ.bE M N m1 q).n n=some b:=by simp only[Names.bE,UC hn,h]
theorem kr{e:Nat}{l:LV}(hn:l.o≠m1)(h:ρ.v e=some l):(ρ.bE M N m1 q).v e=some l:=by simp only[Names.bE,h,UC hn]
theorem mn{m i:Nat}(hn:m≠m1)(hi:¬(m=M∧i=N)):(ρ.bE M N m1 q).k m i=ρ.k m i:=by simp only[Names.bE,UC hn,UC hi]
theorem tV:(ρ.bE M N m1 q).k M N=some q:=by simp only[Names.bE,and_self,if_true]
theorem ni{n b:Nat}(h:(ρ.bE M N m1 q).n n=some b):n≠m1∧ρ.n n=some b:=by simp only[Names.bE] at h;split at h;cases h;rename_i hn;exact⟨hn,h⟩
theorem nf{e:Nat}{l:LV}(h:(ρ.bE M N m1 q).v e=some l):l.o≠m1∧ρ.v e=some l:=by simp only[Names.bE] at h;split at h;rename_i l' hl;split at h;cases h;rename_i hn;obtain rfl:=Oi h;exact⟨hn,hl⟩;cases h
theorem fW{m i:Nat}{l:LV}(h:(ρ.bE M N m1 q).k m i=some l):(m=M∧i=N∧l=q)∨(m≠m1∧ρ.k m i=some l):=by simp only[Names.bE] at h;split at h;rename_i hm;exact .inl ⟨hm.1,hm.2,(Oi h).symm⟩;split at h;cases h;rename_i hn;exact .inr ⟨hn,h⟩
theorem jJ{n b:Nat}(h:bY (ρ.bE M N m1 q) n b):(n≠m1∧bY ρ n b)∨(n=M∧q.cap≠0∧∃o,q.a=some ⟨b,o,none⟩):=by
 rcases h with h|⟨e,l,o,h1,h2,h3,h4⟩|⟨i,l,o,h1,h3,h4⟩
 obtain⟨k1,k2⟩:=ni h;exact .inl ⟨k1,.inl k2⟩;obtain⟨k1,k2⟩:=nf h1;exact .inl ⟨by rw[<-h2];exact k1,.inr (.inl ⟨e,l,o,k2,h2,h3,h4⟩)⟩;rcases fW h1 with ⟨rfl,rfl,rfl⟩|⟨k1,k2⟩
 exact .inr ⟨rfl,h3,o,h4⟩;exact .inl ⟨k1,.inr (.inr ⟨i,l,o,k2,h3,h4⟩)⟩
theorem rm{n:Nat} : ∀{l:List Nat},qM n l=false->n ∉ l
 | [],_,h=>by cases h
 | m::r,h,hm=>by simp only[qM] at h;split at h;cases h;rename_i hb;rcases UI.1 hm with rfl|hm;rw[UN] at hb;cases hb;exact rm h hm
mutual
theorem tC(hM:ρ.k M N=none):∀(x:SV) (v:Value),m1 ∉ dX x->den ρ x v->den (ρ.bE M N m1 q) x v
 | .v _,_,_,hd=>hd
 | .il _ _,_,_,hd=>hd
 | .bl _,_,_,hd=>hd
 | .e,_,_,hd=>hd
 | .rs _ _ _,_,_,hd=>hd
 | .rp _ _,_,_,hd=>hd
 | .p n off,v,hn,⟨b,e1,e2⟩=>⟨b,ku (by simpa[dX,eq_comm] using hn) e1,e2⟩
 | .s n sz off len cap,v,hn,⟨b,e1,e2⟩=>⟨b,ku (by simpa[dX,eq_comm] using hn) e1,e2⟩
 | .m n,v,hn,⟨b,e1,e2⟩=>⟨b,ku (by simpa[dX,eq_comm] using hn) e1,e2⟩
 | .g m e sz off n,v,hn,⟨l,e1,e2,e3⟩=>⟨l,kr (by rw[e2];simpa[dX,eq_comm] using hn) e1,e2,e3⟩
 | .gp m e sz i off,v,hn,⟨l,b,e1,e2,e3⟩=>⟨l,b,kr (by rw[e2];simpa[dX,eq_comm] using hn) e1,e2,e3⟩
 | .kd m i sz off n,v,hn,⟨l,e1,e3⟩=>⟨l,(mn (by simpa[dX,eq_comm] using hn) (by rintro⟨rfl,rfl⟩;rw[hM] at e1;cases e1)).trans e1,e3⟩
 | .kq m i sz j off,v,hn,⟨l,b,e1,e3⟩=>⟨l,b,(mn (by simpa[dX,eq_comm] using hn) (by rintro⟨rfl,rfl⟩;rw[hM] at e1;cases e1)).trans e1,e3⟩
 | .f fn x y,v,hn,⟨u,w,h1,h2,h3⟩=>⟨u,w,fy hM x u (λh=>hn (List.mem_append_left _ h)) h1,fy hM y w (λh=>hn (List.mem_append_right _ h)) h2,h3⟩
 | .agg l,v,hn,⟨u,h1,h2⟩=>⟨u,fy hM l u hn h1,h2⟩
 | .tup l,v,hn,⟨u,h1,h2⟩=>⟨u,fy hM l u hn h1,h2⟩
theorem fy(hM:ρ.k M N=none):∀(x:List SV) (v:List Value),m1 ∉ g7 x->ao ρ x v->ao (ρ.bE M N m1 q) x v
 | [],_,_,hd=>hd
 | x::r,v,hn,⟨u,w,h1,h2,h3⟩=>⟨u,w,h1,tC hM x u (λh=>hn (List.mem_append_left _ h)) h2,fy hM r w (λh=>hn (List.mem_append_right _ h)) h3⟩
end
theorem l9{m t:Nat} : ∀{l:List (Nat×Slot)},look (pS m l) t=(look l t).map λs=>match qM m (dX s.v) with|true=>⟨s.rg,s.k,[(0,true)],.e⟩|false=>s
 | []=>rfl
 | (u,s)::r=>by simp only[pS];by_cases he:u=t;subst he;split<;>rename_i hb<;>rw[aj,aj]<;>simp only[Option.map_some,hb];split<;>rw[ah _ _ he,ah _ _ he]<;>exact l9
theorem tx{m t:Nat} : ∀{l:bc},look (vl m l) t=(look l t).map (tw m)
 | []=>rfl
 | (u,s)::r=>by by_cases he:u=t;subst he;simp only[vl,aj];rfl;simp only[vl,ah _ _ he];exact tx
theorem zM(hM:ρ.k M N=none){W:World}{n:Nat}{sb:SB}(hn:n≠m1)(hnM:n≠M)(hc:c8 ρ W n sb):c8 (ρ.bE M N m1 q) W n (tw m1 sb):=by
 have hk:∀i,(ρ.bE M N m1 q).k n i=ρ.k n i:=λi=>mn hn λh=>hnM h.1;cases sb with
 | gone=>trivial
 | lay cs t=>
  simp only[tw];split;trivial;rename_i hb;obtain⟨b,vs,h1,h2,h3,h4,h5⟩:=hc;exact⟨b,vs,ku hn h1,fy hM _ _ (rm hb) h2,h3,h4,h5⟩
 | lst e sz N f t=>
  obtain⟨l,h1,h2,h3,h4,h5⟩:=hc;exact⟨l,kr (by rw[h2];exact hn) h1,h2,h3,h4,h5⟩
 | mp k ag has g=>
  obtain⟨b,es,cl,h1,h2,h3,h4⟩:=hc;exact⟨b,es,cl,ku hn h1,h2,h3,h4.keys,h4.yes⟩
 | nst e sz N' f p Vk g tk t last=>
  have key:∀X5:Option (List SV),(∀cs,X5=some cs->m1 ∉ g7 cs)->X5=last->c8 (ρ.bE M N m1 q) W n (.nst e sz N' f p Vk g tk t X5):=(by intro X5 hl e';subst e';obtain⟨l,K⟩:=hc;refine⟨l,kr (by rw[K.ho];exact hn) K.hv,K.ho,K.hN,K.hle,λVR=>?_,λi hi=>?_,λi hi=>(hk i).trans (K.no i hi),λi j q r b h1 h2=>K.ne i j q r b ((hk i).symm.trans h1) ((hk j).symm.trans h2)⟩;obtain⟨b,u,k1,k2,k3,k4,k5,k6,k7,k8⟩:=K.row VR;exact⟨b,u,k1,k2,k3,k4,k5,λi hi=>let ⟨q,us,q1,q2⟩:=k6 i hi;⟨q,us,(hk i).trans q1,q2⟩,λcs XF=>let ⟨us,q1,q2⟩:=k7 cs XF;⟨us,fy hM _ _ (hl cs XF) q1,q2⟩,λi q b' h1=>k8 i q b' ((hk i).symm.trans h1)⟩;obtain⟨q,q1,q2⟩:=K.kid i hi;exact⟨q,(hk i).trans q1,q2⟩);simp only[tw];split;exact key none (λcs h=>by cases h) rfl;split;trivial;rename_i cs _ hb;exact key (some cs) (λYi h=>by obtain rfl:=Oi h;exact rm hb) rfl
theorem yi{x:SV}{z:Value} : ∀{l:List SV} {p:Nat} {us:List Value},l[p]? = some x->us[p]? = some z->dq (l.set p .e)=true->ao ρ l us->ao ρ.zo (l.set p (.v z)) us
 | [],p,us,h,_,_,_=>by cases h
 | y::r,0,us,h,hu,hp,hd=>by obtain⟨a,b,rfl,h1,h2⟩:=aN hd;simp only[List.set_cons_zero,dq,lu] at hp;obtain rfl:a=z:=(by simpa using hu);exact⟨a,b,rfl,rfl,cK _ _ hp h2⟩
 | y::r,p+1,us,h,hu,hp,hd=>by obtain⟨a,b,rfl,h1,h2⟩:=aN hd;simp only[List.set_cons_succ,dq] at hp;split at hp;rename_i hy;exact⟨a,b,rfl,lP _ _ hy h1,yi (x:=x) (by simpa using h) (by simpa using hu) hp h2⟩;cases hp
theorem rh{α:Type}{N:Nat}{x:α}{f:Nat->α} : Bm N x f N=x:=by simp only[Bm,UN]
theorem q9{α:Type}{N i:Nat}{x:α}{f:Nat->α}(h:i≠N):Bm N x f i=f i:=by unfold Bm;split;rename_i hb;exact Uw (Nb hb) h;rfl
end
theorem GC{nm0 M m1 nm rg:Nat}{H:bc}{sb:SB}{sl:List (Nat×Slot)}{rd ws:List (Nat×Nat)}{ρ:Names}{a:Act}{W:World}(Vl:∀n b,UT.n n=some b->n<nm0)(U3:∀e l,UT.v e=some l->e<nm0∧l.o<nm0)(U4:∀m i l,UT.k m i=some l->m<nm0)
  (h:Rp C nt w0 UT ⟨sl,H,nm,rg,rd,ws⟩ ρ a W) (Wn:xt nm0 M H=some (m1,sb)):∃US,Rp C nt w0 UT ⟨pS m1 sl,(M,sb)::(m1,.gone)::vl m1 H,nm,rg,rd,ws⟩ US a W:=by
 unfold xt at Wn;split at Wn
 rotate_left
 cases Wn;rename_i e sz N hh p Vk g tk t cs hlM;split at Wn
 rotate_left
 cases Wn;rename_i mm e1 szk1 n1 hcp hpu;split at Wn
 rotate_left
 cases Wn;rename_i e1' szk1' N1 h1 t1 ZX;split at Wn
 rotate_left
 cases Wn;rename_i b1 b2 b3 b4 b5;have b1:=Nb b1;have b2:=Nb b2;have b3:=Nb b3;have b4:=Nb b4;have b5:=L' b5;obtain⟨rfl,rfl⟩:=P' (Oi Wn);subst b1 b2 b3 b4;have hm:=h.base.mem;have hMm:M≠mm:=by rintro rfl;rw[hlM] at ZX;cases ZX
 obtain⟨lM,K⟩:=h.base.blk M _ hlM;obtain⟨l1,q1,q2,q3,q4,q5⟩:=h.base.blk mm _ ZX;have VR:lM.cap≠0:=by have h1:=K.hN;have h2:=K.hle;have h3:lM.N=N+1:=h1;omega
 obtain⟨b,u,k1,k2,k3,k4,k5,k6,k7,k8⟩:=K.row VR;obtain⟨us,r1,r2,r3⟩:=k7 cs rfl;obtain⟨z,hz,hdz⟩:=fw r1 hcp;obtain⟨l1',s1,s2,s3,s4,a',Wc,s6⟩:=hdz;rw[q1] at s1;obtain rfl:=Oi s1;simp only[Nat.sub_zero,B',Nat.zero_mul] at s3 Wc s6;have hMN:ρ.k M N=none:=K.no N (I' _);obtain⟨q,hq⟩:∃q:LV,q=⟨M,a',l1.cap,n1⟩:=⟨_,rfl⟩
 have hqa:q.a=a':=by rw[hq]
 have hqc:q.cap=l1.cap:=by rw[hq]
 have hqN:q.N=n1:=by rw[hq]
 have hqo:∀b2 o,q.cap≠0->q.a=some ⟨b2,o,none⟩->bY ρ mm b2:=λb2 o h1 h2=>by rw[hqc] at h1;obtain⟨b3,t1,t2⟩:=s6 h1;rw[hqa,t2] at h2;injection h2 with h2;injection h2 with h2;subst h2;exact .inr (.inl ⟨e1,l1,0,q1,q2,h1,t1⟩)
 have hMown:bY ρ M b:=.inr (.inl ⟨e,lM,0,K.hv,K.ho,VR,k1⟩);have hMo:lM.o≠mm:=by rw[K.ho];exact hMm
 have hkM:∀i,i≠N->(ρ.bE M N mm q).k M i=ρ.k M i:=λi hi=>mn hMm λh=>hi h.2;have hMlt:M<nm:=by rw[<-K.ho];exact(hm.domv _ _ K.hv).2
 refine⟨ρ.bE M N mm q,⟨⟨⟨λn n' b2 o1 o2=>?_,λn b2 o1=>?_,hm.hb.zok,hm.hb.grd⟩,λn b2 hn=>hm.dom n b2 (ni hn).2,λe2 l2 hl=>hm.domv e2 l2 (nf hl).2,λm i l hl=>?_,⟨λn b2 hn=>?_,λe2 l2 hl=>?_,λm i l hl=>?_,hm.le.z⟩,λn b2 o1=>?_,hm.zold,hm.keep⟩,λn sb hn=>?_,h.base.sz,h.base.df⟩,λu s hs=>?_,λu s hs hg=>?_⟩
 ·rcases jJ o1 with ⟨n1,w1⟩|⟨w1,c1,o,a1⟩<;>rcases jJ o2 with ⟨n2,w2⟩|⟨w2,c2,o',a2⟩
  exact hm.hb.own n n' b2 w1 w2;exact Uw (hm.hb.own _ _ b2 w1 (hqo b2 o' c2 a2)) n1;exact Uw (hm.hb.own _ _ b2 w2 (hqo b2 o c1 a1)) n2;rw[w1,w2]
 ·rcases jJ o1 with ⟨n1,o1⟩|⟨rfl,c1,o,a1⟩
  exact hm.hb.low n b2 o1;exact hm.hb.low _ b2 (hqo b2 o c1 a1)
 ·rcases fW hl with ⟨rfl,-,-⟩|⟨-,hl⟩
  exact hMlt;exact hm.domk m i l hl
 have:=Vl n b2 hn;exact ku (by omega) (hm.le.n n b2 hn);have:=(U3 e2 l2 hl).2;exact kr (by omega) (hm.le.v e2 l2 hl);have:=U4 m i l hl;have h2:=hm.le.k m i l hl;rw[mn (by omega) (by rintro⟨rfl,rfl⟩;rw[hMN] at h2;cases h2)];exact h2
 ·rcases jJ o1 with ⟨n1,o1⟩|⟨rfl,c1,o,a1⟩
  exact hm.old n b2 o1;exact hm.old mm b2 (hqo b2 o c1 a1)
 ·by_cases eM:M=n
  ·subst eM;simp only[aj] at hn;obtain rfl:=Oi hn;refine⟨lM,kr hMo K.hv,K.ho,K.hN,K.hle,λ_=>⟨b,u,k1,k2,k3,k4,k5,λi hi=>?_,(λcs h=>by cases h),λi q' b' hi h1 h2=>?_⟩,λi hi=>?_,λi hi=>?_,λi j q' r b2 hi hj c1 c2 a1 a2=>?_⟩;by_cases hiN:i=N;subst hiN;refine⟨q,us,tV,?_,r2,r3⟩;rw[rh];refine yi (ρ:=ρ) hcp ?_ hpu r1;rw[hz,Wc,hqa,hqN,hqc];obtain⟨q',Z6,t1,t2,t3⟩:=k6 i (by omega);exact⟨q',Z6,(hkM i hiN).trans t1,by rw[q9 hiN];exact t2,t3⟩
   ·rcases fW hi with ⟨-,-,rfl⟩|⟨-,hi⟩
    rintro rfl;exact hMm (hm.hb.own _ _ b' hMown (hqo b' 0 h1 h2));exact k8 i q' b' hi h1 h2
   by_cases hiN:i=N;subst hiN;refine⟨q,tV,by rw[rh];exact hqN,by omega,λhc=>?_⟩;obtain⟨b2,u2,t1,t2,t3,t4,t5,t6⟩:=q5 (by omega);obtain⟨b3,v1,v2⟩:=s6 (by omega);rw[t1] at v1;obtain rfl:b2=b3:=(by injection v1 with v1;injection v1);rw[rh];exact⟨b2,u2,by rw[hqa];exact v2,t2,by rw[hqc];exact t3,t4,t5,λj hj=>t6 j (by omega)⟩;obtain⟨q',t1,t2,t3⟩:=K.kid i (by omega);exact⟨q',(hkM i hiN).trans t1,by rw[q9 hiN];exact t2,by rw[q9 hiN];exact t3⟩;rw[hkM i (by omega)];exact K.no i (by omega);rcases fW hi with ⟨-,e1,w1⟩|⟨-,w1⟩<;>rcases fW hj with ⟨-,e2,w2⟩|⟨-,w2⟩
   rw[e1,e2];rw[w1] at c1 a1;exact Uw (hm.hb.own _ _ b2 (.inr (.inr ⟨j,r,0,w2,c2,a2⟩)) (hqo b2 0 c1 a1)) hMm;rw[w2] at c2 a2;exact Uw (hm.hb.own _ _ b2 (.inr (.inr ⟨i,q',0,w1,c1,a1⟩)) (hqo b2 0 c2 a2)) hMm;exact K.ne i j q' r b2 w1 w2 c1 c2 a1 a2
  simp only[ah _ _ eM] at hn;by_cases em:mm=n;subst em;simp only[aj] at hn;obtain rfl:=Oi hn;trivial;simp only[ah _ _ em,tx] at hn;cases hl:look H n with
  | none=>rw[hl] at hn;cases hn
  | some sb0=>
   rw[hl] at hn;obtain rfl:=Oi hn;exact zM hMN (λe=>em e.symm) (λe=>eM e.symm) (h.base.blk n sb0 hl)
 ·rw[l9] at hs;cases Xg:look sl u with
  | none=>rw[Xg] at hs;cases hs
  | some s0=>
   rw[Xg] at hs;simp only[Option.map_some] at hs;have h0:=h.rgs u s0 Xg;split at hs;obtain rfl:=Oi hs;exact h0;obtain rfl:=Oi hs;exact h0
 rw[l9] at hs;cases Xg:look sl u with
 | none=>rw[Xg] at hs;cases hs
 | some s0=>
  rw[Xg] at hs;simp only[Option.map_some] at hs;split at hs;obtain rfl:=Oi hs;cases hg;rename_i hb;obtain rfl:=Oi hs;obtain⟨x,t1,t2⟩:=h.cC u s0 Xg hg;exact⟨x,tC hMN _ _ (rm hb) t1,t2⟩
theorem Pz{nm0:Nat}{t:Tr}{st:St}{ρ:Names}{a:Act}{W:World}(Vl:∀n b,UT.n n=some b->n<nm0)(U3:∀e l,UT.v e=some l->e<nm0∧l.o<nm0)(U4:∀m i l,UT.k m i=some l->m<nm0)(h:Rp C nt w0 UT st ρ a W):∃US,Rp C nt w0 UT (tr1 nm0 t st) US a W:=by
 obtain⟨sl,H,nm,rg,rd,ws⟩:=st;have Yw:=h.base.mem.free;have hbirth:∀(ad:Option Addr) (sz:Nat) (ty:TypeId),∃US,ρ.le US∧(∀y,y=Value.slice ad 0 0->den US (.g nm nm sz 0 0) y)∧Base C nt w0 UT ((nm,.lst nm sz 0 (λ_=>[]) ty)::H) (nm+1) US a W:=by
  intro ad sz ty;have e:=fT (l:=⟨nm,ad,0,0⟩) h.base.mem.hb Yw.2 (Gr.refl W) (λh=>Uw rfl h);refine⟨ρ.gU nm ⟨nm,ad,0,0⟩,Names.jB Yw.2,λy hy=>⟨_,Names.aX,rfl,I' _,I' _,ad,hy,λh=>Uw rfl h⟩,?_⟩;have:=h.base.done (w:=some (nm,.lst nm sz 0 (λ_=>[]) ty)) (fr:=true) (dst:=none) (x:=undef) (US:=ρ.gU nm ⟨nm,ad,0,0⟩) (W':=W) e (λn sb hn=>by
   obtain⟨rfl,rfl⟩:=P' (Oi hn);exact⟨_,Names.aX,rfl,rfl,I' _,λh=>Uw rfl h⟩) (λn sb hn=>by
   obtain⟨rfl,rfl⟩:=P' (Oi hn);exact Nat.lt_succ_self _)
  exact this
 have Z0:∀(ad:Option Addr) (sz:Nat) (ty:TypeId),∃US,ρ.le US∧(∀y,y=Value.slice ad 0 0->den US (.g nm (nm+1) sz 0 0) y)∧Base C nt w0 UT ((nm,.lst (nm+1) sz 0 (λ_=>[]) ty)::H) (nm+2) US a W:=by
  intro ad sz ty;have VN:Base C nt w0 UT H (nm+1) ρ a W:=⟨h.base.mem.up (Nat.le_succ _),h.base.blk,h.base.sz,h.base.df⟩
  have Ya:=VN.mem.free;have e:=fT (nm:=nm+1) (l:=⟨nm,ad,0,0⟩) VN.mem.hb Ya.2 (Gr.refl W) (λh=>Uw rfl h);refine⟨ρ.gU (nm+1) ⟨nm,ad,0,0⟩,Names.jB Ya.2,λy hy=>⟨_,Names.aX,rfl,I' _,I' _,ad,hy,λh=>Uw rfl h⟩,?_⟩;have:=VN.done (w:=some (nm,.lst (nm+1) sz 0 (λ_=>[]) ty)) (fr:=true) (dst:=none) (x:=undef) (US:=ρ.gU (nm+1) ⟨nm,ad,0,0⟩) (W':=W) e (λn sb hn=>by
   obtain⟨rfl,rfl⟩:=P' (Oi hn);exact⟨_,Names.aX,rfl,rfl,I' _,λh=>Uw rfl h⟩) (λn sb hn=>by
   obtain⟨rfl,rfl⟩:=P' (Oi hn);show nm<nm+2;omega)
  exact this
 have hbirthN:∀(ad:Option Addr) (sz p Vk:Nat) (tk ty:TypeId),∃US,ρ.le US∧(∀y,y=Value.slice ad 0 0->den US (.g nm (nm+1) sz 0 0) y)∧Base C nt w0 UT ((nm,.nst (nm+1) sz 0 (λ_=>[]) p Vk (λ_=>(0,λ_=>[])) tk ty none)::H) (nm+2) US a W:=by
  intro ad sz p Vk tk ty;have VN:Base C nt w0 UT H (nm+1) ρ a W:=⟨h.base.mem.up (Nat.le_succ _),h.base.blk,h.base.sz,h.base.df⟩
  have Ya:=VN.mem.free;have X':∀i,ρ.k nm i=none:=λi=>by
   cases hk:ρ.k nm i with
   | none=>rfl
   | some l=>
    have:nm<nm:=h.base.mem.domk nm i l hk;omega
  have e:=fT (nm:=nm+1) (l:=⟨nm,ad,0,0⟩) VN.mem.hb Ya.2 (Gr.refl W) (λh=>Uw rfl h);refine⟨ρ.gU (nm+1) ⟨nm,ad,0,0⟩,Names.jB Ya.2,λy hy=>⟨_,Names.aX,rfl,I' _,I' _,ad,hy,λh=>Uw rfl h⟩,?_⟩;have:=VN.done (w:=some (nm,.nst (nm+1) sz 0 (λ_=>[]) p Vk (λ_=>(0,λ_=>[])) tk ty none)) (fr:=true) (dst:=none) (x:=undef) (US:=ρ.gU (nm+1) ⟨nm,ad,0,0⟩) (W':=W) e (λn sb hn=>by
   obtain⟨rfl,rfl⟩:=P' (Oi hn);exact⟨_,Names.aX,rfl,rfl,I' _,λh=>Uw rfl h,λi hi=>Uw hi (F' i),λi _=>X' i,λi j q r b h1=>by have h1:ρ.k nm i=some q:=h1;rw[X' i] at h1;cases h1⟩) (λn sb hn=>by
   obtain⟨rfl,rfl⟩:=P' (Oi hn);show nm<nm+2;omega)
  exact this
 cases t with
 | freeze m=>
  simp only[tr1];split
  ·rename_i sb0 hl;split
   rotate_left
   exact⟨ρ,h⟩;rename_i hp;have hH:=h.base.Vg;have hm:=h.base.mem;refine⟨ρ.km (E9 ρ W m),⟨⟨⟨hm.hb.own,hm.hb.low,λb i c hz=>?_,hm.hb.grd⟩,hm.dom,hm.domv,hm.domk,hm.le.trans Names.bw,hm.old,λb i c hz=>?_,hm.keep⟩,λn sb hn=>?_,h.base.sz,h.base.df⟩,λu s hs=>?_,λu s hs hg=>?_⟩;rcases hz with hz|hz;exact hm.hb.zok b i c hz;exact hz.2;rcases hz with hz|hz;exact hm.zold b i c hz;rcases hm.old m b hz.1 with h1|h1;exact .inr (.inr h1);exact .inr (.inl h1)
   ·by_cases e0:m=n;subst e0;simp only[aj] at hn;obtain rfl:=Oi hn;trivial;simp only[ah _ _ e0,vd] at hn;cases hln:look H n with
    | none=>rw[hln] at hn;cases hn
    | some sb0=>
     rw[hln] at hn;obtain rfl:=Oi hn;have hc:=h.base.blk n sb0 hln;cases sb0 with
     | gone=>trivial
     | mp k ag has g=>
      obtain⟨b,es,cl,h1,h2,h3,h4⟩:=hc;exact⟨b,es,cl,h1,h2,h3,λx hx=>let ⟨m,q1,q2,u,q3,q4⟩:=h4.keys x hx;⟨m,q1,q2,u,aJ (Names.le.zo Names.bw) _ _ q3,q4⟩,h4.yes⟩
     | lay cs t=>
      obtain⟨b,vs,h1,h2,h3,h4,h5⟩:=hc;exact⟨b,vs,h1,mF hH hl hp cs vs h2,h3,h4,λi c hz=>by
       rcases hz with hz|hz;exact h5 i c hz
       ·exact e0 (hm.hb.own m n b hz.1 (.inl h1))⟩
     | lst e' Vi N' f' t'=>
      obtain⟨l,h1,h2,h3,h4,h5⟩:=hc;refine⟨l,h1,h2,h3,h4,λVR=>?_⟩;obtain⟨b,u,k1,k2,k3,k4,k5,k6⟩:=h5 VR;exact⟨b,u,k1,k2,k3,k4,λi c hz=>by
       rcases hz with hz|hz;exact k5 i c hz
       ·exact e0 (hm.hb.own m n b hz.1 (.inr (.inl ⟨e',l,0,h1,h2,VR,k1⟩))),λi hi=>let ⟨us,q1,q2⟩:=k6 i hi;⟨us,aJ (Names.le.zo Names.bw) _ _ q1,q2⟩⟩
     | nst e' Vi N' f' p' Z8 g' tk' t' X5=>exact na hc λb i c ho hz=>e0 (hm.hb.own m n b hz.1 ho)
   ·rw[nL] at hs;cases Xg:look sl u with
    | none=>rw[Xg] at hs;cases hs
    | some s0=>
     rw[Xg] at hs;obtain rfl:=Oi hs;exact h.rgs u s0 Xg
   rw[nL] at hs;cases Xg:look sl u with
   | none=>rw[Xg] at hs;cases hs
   | some s0=>
    rw[Xg] at hs;obtain rfl:=Oi hs;obtain⟨x,q1,q2⟩:=h.cC u s0 Xg hg;exact⟨x,DV hH hl hp _ _ q1,q2⟩
  exact⟨ρ,h⟩
 | slot2 t sz ty=>
  simp only[tr1];split;rename_i r k v hl;split;rename_i he hr;have hr:=L' hr;obtain⟨y,h1,h2⟩:=h.cC t _ hl rfl;obtain⟨ad,rfl⟩:=pQ he h1;obtain⟨US,k1,k2,k3⟩:=Z0 ad sz ty;refine⟨US,k3,λu s hs=>?_,λu s hs hg=>?_⟩;by_cases e:t=u;subst e;simp only[aj] at hs;obtain rfl:=Oi hs;exact hr;simp only[ah _ _ e] at hs;exact h.rgs u s hs;by_cases e:t=u;subst e;simp only[aj] at hs;obtain rfl:=Oi hs;exact⟨_,k2 _ rfl,h2⟩;simp only[ah _ _ e] at hs;obtain⟨x,q1,q2⟩:=h.cC u s hs hg;exact⟨x,bM k1 _ _ q1,q2⟩;exact⟨ρ,h⟩;exact⟨ρ,h⟩
 | cell2 n i sz ty=>
  simp only[tr1];split;rename_i cs t hl;split;rename_i v hv;split;rename_i he;obtain⟨b,vs,h1,h2,h3,h4,h5⟩:=h.base.blk n _ hl;obtain⟨y,hy,hdy⟩:=fw h2 hv;obtain⟨ad,rfl⟩:=pQ he hdy;obtain⟨US,k1,k2,k3⟩:=Z0 ad sz ty;refine⟨US,⟨k3.mem,λm sb hm=>?_,k3.sz,k3.df⟩,h.rgs,λu s hs hg=>let ⟨x,q1,q2⟩:=h.cC u s hs hg;⟨x,bM k1 _ _ q1,q2⟩⟩;by_cases e:n=m;subst e;simp only[aj] at hm;obtain rfl:=Oi hm;have hk:=k3.blk n (.lay cs t) (by have U2:nm≠n:=(by rintro rfl;have:nm<nm:=h.base.mem.dom _ b h1;omega);rw[ah _ _ U2];exact hl);obtain⟨b',Zl,q1,q2,q3,q4,q5⟩:=hk;have hbb:b'=b:=(by have:=k1.n n b h1;rw[q1] at this;exact Oi this);subst hbb;have ZS:Zl=vs:=(by have e1:W.heap[b']? = some (.cells Zl.toArray t (0,0)):=q3;have e2:W.heap[b']? = some (.cells vs.toArray t (0,0)):=h3;rw[e1] at e2;injection e2 with e2;injection e2 with e2;simpa using Uv Array.toList e2);subst ZS;refine⟨b',Zl,q1,?_,q3,q4,q5⟩;have:=tD (i:=i) q2 (k2 _ rfl);rw[xW hy] at this;exact this;simp only[ah _ _ e] at hm;exact k3.blk m sb hm;exact⟨ρ,h⟩;exact⟨ρ,h⟩;exact⟨ρ,h⟩
 | cellN n i sz p Vk tk ty=>
  simp only[tr1];split;rename_i cs t hl;split;rename_i v hv;split;rename_i he;obtain⟨b,vs,h1,h2,h3,h4,h5⟩:=h.base.blk n _ hl;obtain⟨y,hy,hdy⟩:=fw h2 hv;obtain⟨ad,rfl⟩:=pQ he hdy;obtain⟨US,k1,k2,k3⟩:=hbirthN ad sz p Vk tk ty;refine⟨US,⟨k3.mem,λm sb hm=>?_,k3.sz,k3.df⟩,h.rgs,λu s hs hg=>let ⟨x,q1,q2⟩:=h.cC u s hs hg;⟨x,bM k1 _ _ q1,q2⟩⟩;by_cases e:n=m;subst e;simp only[aj] at hm;obtain rfl:=Oi hm;have hk:=k3.blk n (.lay cs t) (by have U2:nm≠n:=(by rintro rfl;have:nm<nm:=h.base.mem.dom _ b h1;omega);rw[ah _ _ U2];exact hl);obtain⟨b',Zl,q1,q2,q3,q4,q5⟩:=hk;have hbb:b'=b:=(by have:=k1.n n b h1;rw[q1] at this;exact Oi this);subst hbb;have ZS:Zl=vs:=(by have e1:W.heap[b']? = some (.cells Zl.toArray t (0,0)):=q3;have e2:W.heap[b']? = some (.cells vs.toArray t (0,0)):=h3;rw[e1] at e2;injection e2 with e2;injection e2 with e2;simpa using Uv Array.toList e2);subst ZS;refine⟨b',Zl,q1,?_,q3,q4,q5⟩;have:=tD (i:=i) q2 (k2 _ rfl);rw[xW hy] at this;exact this;simp only[ah _ _ e] at hm;exact k3.blk m sb hm;exact⟨ρ,h⟩;exact⟨ρ,h⟩;exact⟨ρ,h⟩
 | bE M=>
  simp only[tr1];split;rename_i m1 sb Wn;exact GC Vl U3 U4 h Wn;exact⟨ρ,h⟩
theorem vM{nm0:Nat}{a:Act}{W:World}(Vl:∀n b,UT.n n=some b->n<nm0)(U3:∀e l,UT.v e=some l->e<nm0∧l.o<nm0)(U4:∀m i l,UT.k m i=some l->m<nm0):∀{t:List Tr} {st:St} {ρ:Names},Rp C nt w0 UT st ρ a W->∃US,Rp C nt w0 UT (trs nm0 t st) US a W
 | [],st,ρ,h=>⟨ρ,h⟩
 | t::r,st,ρ,h=>by obtain⟨US,h'⟩:=Pz (t:=t) Vl U3 U4 h;exact vM Vl U3 U4 (t:=r) (st:=tr1 nm0 t st) h'
theorem Cut.at_.rp{c:Cut}{nm0:Nat}{st:St}{Q:c.α->Prop}{ρ:Names}{a:Act}{W:World}(Vl:∀n b,UT.n n=some b->n<nm0)(U3:∀e l,UT.v e=some l->e<nm0∧l.o<nm0)(U4:∀m i l,UT.k m i=some l->m<nm0)(h:c.at_ nm0 st Q)(hr:Rp C nt w0 UT st ρ a W):∃b US,Q b∧c.P b∧Rp C nt w0 UT (c.J b) US a W:=by obtain⟨b,σ,t,hq,hp,hle⟩:=h;obtain⟨US,VX⟩:=vM (t:=t) Vl U3 U4 hr;exact⟨b,_,hq,hp,hle.rp Vl U3 U4 VX⟩
theorem C0{x y:Code}{st:St}{K:Ex->St->Prop}{Mid:St->Prop}(hx:Lh C nt w0 UT x st (xK K Mid))(hy:∀Vd ρ a W,Mid Vd->Rp C nt w0 UT Vd ρ a W->wpR C.P C.co y (λe a' W'=>∃x Vd US,e=Ex.to x∧K x Vd∧Rp C nt w0 UT Vd US a' W') a W):Lh C nt w0 UT (.seq x y) st K:=by
 intro ρ a W hr;refine fH (cR (hx ρ a W hr) ?_);rintro e a' W' ⟨x',Vd,US,rfl,hk,VX⟩;cases x' with
 | normal=>exact hy Vd US a' W' hk VX
 | exit i=>exact⟨.exit i,Vd,US,rfl,hk,VX⟩
 | ret=>exact⟨.ret,Vd,US,rfl,hk,VX⟩
theorem L5{x:Code}{f:St->(Ex->St->Prop)->Prop}{K:Ex->St->Prop}(hf:∀st K,f st K->Lh C nt w0 UT x st K){n:Nat}{st:St}(h:unr f n st K):Lh C nt w0 UT (.loop x) st K:=by
 intro ρ a W hr;refine rL (λn a W=>∃st ρ,Rp C nt w0 UT st ρ a W∧unr f n st K) n ⟨st,ρ,hr,h⟩ ?_;rintro n a W ⟨st,ρ,hr,h⟩;cases n with
 | zero=>exact h.elim
 | succ n=>
  refine cR (hf st _ h ρ a W hr) ?_;rintro e a' W' ⟨x',Vd,US,rfl,hk,VX⟩;cases x' with
  | normal=>exact⟨n,Nat.lt_succ_self n,Vd,US,VX,hk⟩
  | exit i=>exact⟨.exit i,Vd,US,rfl,hk,VX⟩
  | ret=>exact⟨.ret,Vd,US,rfl,hk,VX⟩
theorem cX{nm0:Nat}{h:X1}(hI:eP C I)(hm:C.P.follows .mixedOrders=true)(Vl:∀n b,UT.n n=some b->n<nm0)(U3:∀e l,UT.v e=some l->e<nm0∧l.o<nm0)(U4:∀m i l,UT.k m i=some l->m<nm0) :
  ∀(c:Code) (st:St) (K:Ex->St->Prop),eB h.fl c=true->ev Γ nt nm0 I inls h c st K->Lh C nt w0 UT c st K
 | .skip,st,K,hB,he=>λρ a W hr=>nU ⟨.normal,st,ρ,rfl,he,hr⟩
 | .region id ops draw,st,K,hB,he=>λρ a W hr=>zC hI hm (Bool.and_eq_true_iff.1 hB).1 hr he λVd US a' W' hk VX=>⟨.normal,Vd,US,rfl,hk,VX⟩
 | .seq x y,st,K,hB,he=>by have hB:=Bool.and_eq_true_iff.1 hB;simp only[ev] at he;split at he;exact C0 (cX hI hm Vl U3 U4 x st _ hB.1 he) λVd ρ a W hk hr=>cX hI hm Vl U3 U4 y Vd K hB.2 hk ρ a W hr;obtain⟨c,he⟩:=he;refine C0 (cX hI hm Vl U3 U4 x st _ hB.1 he.1) λVd ρ a W hk hr=>?_;obtain⟨b,US,-,hp,VX⟩:=hk.rp Vl U3 U4 hr;exact cX hI hm Vl U3 U4 y (c.J b) K hB.2 (he.2 b hp) _ a W VX
 | .cond c x y,st,K,hB,he=>λρ a W hr=>by have hB:=Bool.and_eq_true_iff.1 hB;simp only[ev] at he;split at he;rename_i hc;split at he;exact jL (gN hr hc) (cX hI hm Vl U3 U4 x st K hB.1 he ρ a W hr);obtain⟨c',he,he2⟩:=he;obtain⟨b',US,-,hp,VX⟩:=he.rp Vl U3 U4 hr;exact jL (gN hr hc) (cX hI hm Vl U3 U4 x (c'.J b') K hB.1 (he2 b' hp) _ a W VX);rename_i hc;exact gJ (gN hr hc) (cX hI hm Vl U3 U4 y st K hB.2 he ρ a W hr);rename_i b hc;split at he;exact lD (gN hr hc) (λhb=>cX hI hm Vl U3 U4 x st K hB.1 (he.1 hb) ρ a W hr) (λhb=>cX hI hm Vl U3 U4 y st K hB.2 (he.2 hb) ρ a W hr);refine lD (gN hr hc) (λhb=>?_) (λhb=>cX hI hm Vl U3 U4 y st K hB.2 (he.2 hb) ρ a W hr);obtain⟨c',hf,he2⟩:=he.1 hb;obtain⟨b',US,-,hp,VX⟩:=hf.rp Vl U3 U4 hr;exact cX hI hm Vl U3 U4 x (c'.J b') K hB.1 (he2 b' hp) _ a W VX;cases he
 | .block id x,st,K,hB,he=>λρ a W hr=>by
  refine o4 (cR (cX hI hm Vl U3 U4 x st _ hB he ρ a W hr) ?_);rintro e a' W' ⟨x',Vd,US,rfl,hk,VX⟩;cases x' with
  | normal=>exact⟨.normal,Vd,US,rfl,hk,VX⟩
  | ret=>exact⟨.ret,Vd,US,rfl,hk,VX⟩
  | exit i=>
   show if i=id then _ else _;simp only at hk;split at hk;rename_i hb;rw[UD (Nb hb)];exact⟨.normal,Vd,US,rfl,hk,VX⟩;rename_i hb;rw[UC (λe=>by rw[e,UN] at hb;cases hb)];exact⟨.exit i,Vd,US,rfl,hk,VX⟩
 | .loop x,st,K,hB,he=>by
  simp only[ev] at he;split at he;exact L5 (λst K hh=>cX hI hm Vl U3 U4 x st K hB hh) he;obtain⟨c,hc0,X6⟩:=he;intro ρ a W hr;obtain⟨b0,V1,-,hp0,hr0⟩:=hc0.rp Vl U3 U4 hr;refine rL (λn a W=>∃b ρ,c.μ b=n∧c.P b∧Rp C nt w0 UT (c.J b) ρ a W) _ ⟨b0,V1,rfl,hp0,hr0⟩ ?_;rintro n a W ⟨b,ρ,rfl,hp,hr⟩;refine cR (cX hI hm Vl U3 U4 x (c.J b) _ hB (X6 b hp) ρ a W hr) ?_;rintro e a' W' ⟨x',Vd,US,rfl,hk,VX⟩;cases x' with
  | normal=>
   obtain⟨b',ρ'',U8,hp',hr''⟩:=Cut.at_.rp Vl U3 U4 hk VX;exact⟨_,U8,b',_,rfl,hp',hr''⟩
  | exit i=>exact⟨.exit i,Vd,US,rfl,hk,VX⟩
  | ret=>exact⟨.ret,Vd,US,rfl,hk,VX⟩
 | .exit id,st,K,hB,he=>λρ a W hr=>xE ⟨.exit id,st,ρ,rfl,he,hr⟩
 | .ret,st,K,hB,he=>λρ a W hr=>LD ⟨.ret,st,ρ,rfl,he,hr⟩
 | .rangeFunc ..,st,K,hB,he=>he.elim
 | .scope _,st,K,hB,he=>he.elim
 | .label _,st,K,hB,he=>he.elim
 | .goto _,st,K,hB,he=>he.elim
 | .refuse _,st,K,hB,he=>he.elim
def Sat{PP:Program}(C:Cx PP)(nt:Nat)(w0:World)(UT:Names)(c:Code)(st:St)(K:Ex->St->Prop):Prop:=
 ∀ρ a W,Rp C nt w0 UT st ρ a W->wpJ C.P C.co c (λe a' W'=>∃x Vd US,e=Ex.to x∧K x Vd∧Rp C nt w0 UT Vd US a' W') a W
theorem zy{nm0:Nat}{h:X1}(hI:eP C I)(hm:C.P.follows .mixedOrders=true)(Vl:∀n b,UT.n n=some b->n<nm0)(U3:∀e l,UT.v e=some l->e<nm0∧l.o<nm0)(U4:∀m i l,UT.k m i=some l->m<nm0)
  (c:Code) (st:St) (K:Ex->St->Prop) (hB:eB h.fl c=true) (he:ev Γ nt nm0 I inls h c st K):Sat C nt w0 UT c st K:=λρ a W hR=>(cX hI hm Vl U3 U4 c st K hB he ρ a W hR).toJ
end
end Go.Proofs.YtgigkennhdolpaaGreatDoor
