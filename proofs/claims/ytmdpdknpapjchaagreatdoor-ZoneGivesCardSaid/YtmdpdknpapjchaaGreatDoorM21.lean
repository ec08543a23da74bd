/- A symbolic executor with lists. -/
import Derived.Test.YtmdpdknpapjchaaGreatDoorM20
set_option linter.all false
namespace Go.Proofs.YtmdpdknpapjchaaGreatDoor
open Go.RowKit
variable {a:Act}{σ:List (Nat×Nat)}{l:List Prop}{ρ:Names}{M N Yf b e i m n nm nm0 p sz:Nat}{PP:Program}{sb:SB}{v:SV}{st:St}{α:Type}{y:Value}
inductive Ex where
 | normal
 | exit (id:Nat)
 | ret
def Ex.to:Ex->Exit
 | .normal=>.normal
 | .exit i=>.exit i
 | .ret=>.ret
def rl(sl:List (Nat×Slot)):Operand->Option SV
 | .const v=>some (cH v)
 | .global g=>some (.v (.pointer (some ⟨g,0,none⟩)))
 | .func f=>some (.v (.func (.func f) #[] #[]))
 | .tmp t=>match look sl t with
  | none=>none
  | some ⟨_,_,g,v⟩=>match g with|[]=>some v|_::_=>none
theorem G2{sl:List (Nat×Slot)}{x:Operand} : rl sl x=match x with
 | .const v=>some (cH v)
 | .global g=>some (.v (.pointer (some ⟨g,0,none⟩)))
 | .func f=>some (.v (.func (.func f) #[] #[]))
 | .tmp t=>match look sl t with
  | none=>none
  | some s=>match s.g with|[]=>some s.v|_::_=>none:=by
 cases x with
 | tmp t=>
  simp only[rl];cases look sl t with
  | none=>rfl
  | some s=>cases s;rfl
 | _=>rfl
def ZK:List (Nat×Nat)->Nat->Nat
 | [],n=>n
 | (a,b)::r,n=>match Nat.beq a n with|true=>b|false=>ZK r n
def Hj(σ:List (Nat×Nat))(o:Nat):Nat->Option Nat
 | 0=>none
 | k+1=>match Nat.beq (ZK σ k) o with|true=>some k|false=>Hj σ o k
def iY(nm:Nat)(σ:List (Nat×Nat))(ρ:Names):Names:=
 ⟨λn=>match Nat.blt n nm with|true=>ρ.n (ZK σ n)|false=>none,
 λe=>match Nat.blt e nm with
  | true=>match ρ.v (ZK σ e) with
   | some l=>match Hj σ l.o nm with|some o=>some ⟨o,l.a,l.cap,l.N⟩|none=>none
   | none=>none
  | false=>none,
 λm i=>match Nat.blt m nm with|true=>ρ.k (ZK σ m) i|false=>none,
 ρ.z,ρ.d,ρ.o⟩
def kB(nm:Nat)(σ:List (Nat×Nat))(n' n:Nat):Bool:=match Nat.blt n' nm with|true=>Nat.beq (ZK σ n') n|false=>false
def eqO(b:Bool)(l:List Prop):Option (List Prop):=match b with|true=>some l|false=>none
def vqI(k:IntKind)(a:Int)(x:SV):Option (List Prop):=match x.int? with|none=>none|some (k',b)=>eqO (ml k k') [a=b]
def vqB(a:Bool)(x:SV):Option (List Prop):=match x.bool? with|none=>none|some b=>some [a=b]
def vqV(y:Value):SV->Option (List Prop)
 | .v y'=>some [y=y']
 | _=>none
def nX:Option (List Prop)->Option (List Prop)->Option (List Prop)
 | some a,some b=>some (a++b)
 | _,_=>none
mutual
def vq(nm:Nat)(σ:List (Nat×Nat)):SV->SV->Option (List Prop)
 | .v (.int k a),x=>vqI k a x
 | .il k a,x=>vqI k a x
 | .v (.bool a),x=>vqB a x
 | .bl a,x=>vqB a x
 | .v y,x=>vqV y x
 | .p n off,x=>match x with
  | .p n' YW=>match kB nm σ n n' with|true=>eqO (Nat.beq off YW) []|false=>none
  | _=>none
 | .s n sz off len cap,x=>match x with
  | .s n' Yb YW len' cap'=>match kB nm σ n n',Nat.beq sz Yb,Nat.beq off YW,Nat.beq len len' with|true,true,true,true=>eqO (Nat.beq cap cap') []|_,_,_,_=>none
  | _=>none
 | .f fn p q,x=>match x with|.f fn' p' q'=>nX (some [fn=fn']) (nX (Yv nm σ p p') (Yv nm σ q q'))|_=>none
 | .agg l,x=>match x with|.agg l'=>Yv nm σ l l'|_=>none
 | .tup l,x=>match x with|.tup l'=>Yv nm σ l l'|_=>none
 | .e,x=>match x with|.e=>some []|.v (.slice none 0 0)=>some []|_=>none
 | .rs sz n h,x=>match x with
  | .rs Yb n' h'=>eqO (Nat.beq sz Yb) [n=n',∀i,i<n'->aT (Yv nm σ (h i) (h' i))]
  | .e=>some [n=0]
  | .v (.slice none 0 0)=>some [n=0]
  | _=>none
 | .rp l off,x=>match x with|.rp l' YW=>nX (some [off=YW]) (Yv nm σ l l')|_=>none
 | .g m e sz off n,x=>match x with
  | .g m' e' Yb YW n'=>match kB nm σ m m',kB nm σ e e' with|true,true=>eqO (Nat.beq sz Yb) [off=YW,n=n']|_,_=>none
  | _=>none
 | .gp m e sz i off,x=>match x with
  | .gp m' e' Yb i' YW=>match kB nm σ m m',kB nm σ e e' with|true,true=>eqO (Nat.beq sz Yb) [i=i',off=YW]|_,_=>none
  | _=>none
 | .m n,x=>match x with
  | .m n'=>match kB nm σ n n' with|true=>some []|false=>none
  | _=>none
 | .kd m i sz off n,x=>match x with
  | .kd m' i' Yb YW n'=>match kB nm σ m m' with|true=>eqO (Nat.beq sz Yb) [i=i',off=YW,n=n']|_=>none
  | _=>none
 | .kq m i sz j off,x=>match x with
  | .kq m' i' Yb j' YW=>match kB nm σ m m' with|true=>eqO (Nat.beq sz Yb) [i=i',j=j',off=YW]|_=>none
  | _=>none
def Yv(nm:Nat)(σ:List (Nat×Nat)):List SV->List SV->Option (List Prop)
 | [],x=>match x with|[]=>some []|_::_=>none
 | y::r,x=>match x with|[]=>none|x::s=>nX (vq nm σ y x) (Yv nm σ r s)
end
def NB(nm:Nat)(σ:List (Nat×Nat))(st:St):List (Nat×Slot)->Option (List Prop)
 | []=>some []
 | (t,s')::r=>match look st.sl t with
  | none=>none
  | some s=>match s.g,s'.g with|[],[]=>nX (vq nm σ s'.v s.v) (NB nm σ st r)|_,_=>none
def Ce(nm:Nat)(σ:List (Nat×Nat))(n:Nat):SB->SB->Option (List Prop)
 | .lay cs t,x=>match x with
  | .lay cs' t'=>match Nat.beq t t' with|true=>Yv nm σ cs cs'|false=>none
  | _=>none
 | .lst e sz N h t,x=>match x with
  | .lst e' Yb N' h' t'=>match kB nm σ e e',Nat.beq sz Yb with|true,true=>eqO (Nat.beq t t') [N=N',∀i,i<N'->aT (Yv nm σ (h i) (h' i))]|_,_=>none
  | _=>none
 | .gone,_=>some []
 | .nst e sz N h p Yf g tk t last,x=>match x with
  | .nst e' Yb N' h' p' szk' g' tk' t' last'=>match last,last',kB nm σ e e',Nat.beq sz Yb,Nat.beq p p',Nat.beq Yf szk',Nat.beq tk tk' with
   | none,none,true,true,true,true,true=>eqO (Nat.beq t t') [N=N',∀i,i<N'->aT (Yv nm σ ((h i).set p .e) ((h' i).set p .e)),∀i,i<N'->(g i).1=(g' i).1,∀i,i<N'->∀j,j<(g' i).1->aT (Yv nm σ ((g i).2 j) ((g' i).2 j))]
   | _,_,_,_,_,_,_=>none
  | _=>none
 | .mp k ag has g,x=>match x with
  | .mp k' ag' has' g'=>match pY k k',Cz ag ag' with|true,true=>some [∀j,has j=has' j,∀j,has' j=true->aT (Yv nm σ (g j) (g' j))]|_,_=>none
  | _=>none
def vqH(nm:Nat)(σ:List (Nat×Nat))(st:St):aU->Option (List Prop)
 | []=>some []
 | (n,Yu)::r=>match look st.H (ZK σ n),Nat.blt n nm with
  | some sb,true=>nX (Ce nm σ n Yu sb) (vqH nm σ st r)
  | _,_=>none
def yp(σ:List (Nat×Nat))(m:Nat):Nat->Bool
 | 0=>true
 | k+1=>match Nat.beq (ZK σ k) (ZK σ m) with|true=>false|false=>yp σ m k
def Pa(σ:List (Nat×Nat)):Nat->Bool
 | 0=>true
 | k+1=>match yp σ k k with|true=>Pa σ k|false=>false
def Pu(σ:List (Nat×Nat)):Nat->Bool
 | 0=>true
 | k+1=>match Nat.beq (ZK σ k) k with|true=>Pu σ k|false=>false
def rgB(rg:Nat):List (Nat×Slot)->Bool
 | []=>true
 | (_,s)::r=>match Nat.ble s.rg rg with|true=>rgB rg r|false=>false
def LS(nm0:Nat)(σ:List (Nat×Nat))(X4:St):Bool:=match Nat.ble nm0 X4.nm,Pa σ X4.nm,Pu σ nm0,rgB X4.rg X4.sl with|true,true,true,true=>true|_,_,_,_=>false
def Vx(m:Nat)(sb:SB)(n off:Nat):SV:=match Nat.beq n m,sb with
 | true,.lay cs _=>.rp cs off
 | _,_=>.p n off
def VA(m:Nat)(sb:SB)(n sz off len cap:Nat):SV:=match Nat.beq n m,sb with
 | true,.lay cs _=>match Nat.ble (off+len*sz) cs.length,Nat.ble len cap with
  | true,true=>.rs sz len (λi=>chunk (cs.drop off) sz i)
  | _,_=>.s n sz off len cap
 | _,_=>.s n sz off len cap
def Vz(m:Nat)(sb:SB)(m' e' Yb off n:Nat):SV:=match Nat.beq m' m,sb with
 | true,.lst e sz _ h _=>match Nat.beq e' e,Nat.beq Yb sz with|true,true=>.rs sz n (λi=>h (off+i))|_,_=>.g m' e' Yb off n
 | true,.nst e sz _ h p Yf g _ _ none=>match Nat.beq e' e,Nat.beq Yb sz with|true,true=>.rs sz n (λi=>G4 h p Yf g (off+i))|_,_=>.g m' e' Yb off n
 | _,_=>.g m' e' Yb off n
def Rs(m:Nat)(sb:SB)(m' e' Yb i off:Nat):SV:=match Nat.beq m' m,sb with
 | true,.lst e sz _ h _=>match Nat.beq e' e,Nat.beq Yb sz with|true,true=>.rp (h i) off|_,_=>.gp m' e' Yb i off
 | true,.nst e sz _ h p Yf g _ _ none=>match Nat.beq e' e,Nat.beq Yb sz with|true,true=>.rp (G4 h p Yf g i) off|_,_=>.gp m' e' Yb i off
 | _,_=>.gp m' e' Yb i off
def Vy(m:Nat)(sb:SB)(m' i Yb off n:Nat):SV:=match Nat.beq m' m,sb with
 | true,.nst _ _ _ _ _ Yf g _ _ none=>match Nat.beq Yb Yf with|true=>.rs Yf n (λj=>(g i).2 (off+j))|_=>.kd m' i Yb off n
 | _,_=>.kd m' i Yb off n
def Vw(m:Nat)(sb:SB)(m' i Yb j off:Nat):SV:=match Nat.beq m' m,sb with
 | true,.nst _ _ _ _ _ Yf g _ _ none=>match Nat.beq Yb Yf with|true=>.rp ((g i).2 j) off|_=>.kq m' i Yb j off
 | _,_=>.kq m' i Yb j off
mutual
def vQ(m:Nat)(sb:SB):SV->SV
 | .g m' e' Yb off n=>Vz m sb m' e' Yb off n
 | .gp m' e' Yb i off=>Rs m sb m' e' Yb i off
 | .kd m' i Yb off n=>Vy m sb m' i Yb off n
 | .kq m' i Yb j off=>Vw m sb m' i Yb j off
 | .m n=>.m n
 | .agg l=>.agg (C9 m sb l)
 | .tup l=>.tup (C9 m sb l)
 | .f fn x y=>.f fn (C9 m sb x) (C9 m sb y)
 | .v x=>.v x
 | .il k n=>.il k n
 | .bl b=>.bl b
 | .p n off=>Vx m sb n off
 | .s n sz off len cap=>VA m sb n sz off len cap
 | .e=>.e
 | .rs sz n h=>.rs sz n h
 | .rp x off=>.rp x off
def C9(m:Nat)(sb:SB):List SV->List SV
 | []=>[]
 | x::r=>vQ m sb x::C9 m sb r
end
def AA(m:Nat)(sb:SB):List (Nat×Slot)->List (Nat×Slot)
 | []=>[]
 | (t,s)::r=>(t,⟨s.rg,s.k,s.g,vQ m sb s.v⟩)::AA m sb r
def Rr(m:Nat)(sb:SB):SB->SB
 | .lay cs t=>.lay (C9 m sb cs) t
 | x=>x
def Lf(m:Nat)(sb:SB):aU->aU
 | []=>[]
 | (n,b)::r=>(n,Rr m sb b)::Lf m sb r
def Le:SB->Bool
 | .lst _ _ _ _ _=>true
 | .lay cs _=>dB cs
 | .gone=>false
 | .mp _ _ _ _=>false
 | .nst _ _ _ _ _ _ _ _ _ last=>match last with|none=>true|some _=>false
inductive Tr where
 | freeze (m:Nat)
  /-- .. with an age of its own. -/
 | slot2 (t sz:Nat) (ty:TypeId)
 | cell2 (n i sz:Nat) (ty:TypeId)
  /-- .. a list of lists: the cell that they lie in, their size. -/
 | cellN (n i sz p Yf:Nat) (tk ty:TypeId)
  /-- The list of the element that was put behind a list of lists becomes its own; whoever else knows it, forgets it. -/
 | bP (M:Nat)
def uQ:SV->Bool
 | .e=>true
 | .v (.slice none 0 0)=>true
 | _=>false
def qC(m:Nat):List (Nat×Slot)->List (Nat×Slot)
 | []=>[]
 | (t,s)::r=>match rP m (dU s.v) with
  | true=>(t,⟨s.rg,s.k,[(0,true)],.e⟩)::qC m r
  | false=>(t,s)::qC m r
def uR(m:Nat):SB->SB
 | .lay cs t=>match rP m (gH cs) with|true=>.gone|false=>.lay cs t
 | .nst e sz N h p Yf g tk t last=>match last with
  | none=>.nst e sz N h p Yf g tk t none
  | some cs=>match rP m (gH cs) with|true=>.gone|false=>.nst e sz N h p Yf g tk t (some cs)
 | x=>x
def w8(m:Nat):aU->aU
 | []=>[]
 | (n,b)::r=>(n,uR m b)::w8 m r
def CI(N:Nat)(x:α)(f:Nat->α):Nat->α:=λi=>match Nat.beq i N with|true=>x|false=>f i
def yT(nm0 M:Nat)(H:aU):Option (Nat×SB):=match look H M with
 | some (.nst e sz N h p Yf g tk t (some cs))=>match cs[p]?,dB (cs.set p .e) with
  | some (.g m1 e1 szk1 0 n1),true=>match look H m1 with
   | some (.lst e1' szk1' _ h1 t1)=>match Nat.beq e1 e1',Nat.beq szk1 szk1',Nat.beq szk1 Yf,Nat.beq t1 tk,Nat.ble nm0 m1 with
    | true,true,true,true,true=>some (m1,.nst e sz (N+1) (CI N cs h) p Yf (CI N (n1,h1) g) tk t none)
    | _,_,_,_,_=>none
   | _=>none
  | _,_=>none
 | _=>none
def tr1(nm0:Nat):Tr->St->St
 | .freeze m,⟨sl,H,nm,rg,rd,ws⟩=>match look H m with
  | some sb=>match Le sb with
   | true=>⟨AA m sb sl,(m,.gone)::Lf m sb H,nm,rg,rd,ws⟩
   | false=>⟨sl,H,nm,rg,rd,ws⟩
  | _=>⟨sl,H,nm,rg,rd,ws⟩
 | .slot2 t sz ty,⟨sl,H,nm,rg,rd,ws⟩=>match look sl t with
  | some ⟨r,k,[],v⟩=>match uQ v,Nat.ble r rg with
   | true,true=>⟨(t,⟨r,k,[],.g nm (nm+1) sz 0 0⟩)::sl,(nm,.lst (nm+1) sz 0 (λ_=>[]) ty)::H,nm+2,rg,rd,ws⟩
   | _,_=>⟨sl,H,nm,rg,rd,ws⟩
  | _=>⟨sl,H,nm,rg,rd,ws⟩
 | .cell2 n i sz ty,⟨sl,H,nm,rg,rd,ws⟩=>match look H n with
  | some (.lay cs t)=>match cs[i]? with
   | some v=>match uQ v with
    | true=>⟨sl,(n,.lay (cs.set i (.g nm (nm+1) sz 0 0)) t)::(nm,.lst (nm+1) sz 0 (λ_=>[]) ty)::H,nm+2,rg,rd,ws⟩
    | false=>⟨sl,H,nm,rg,rd,ws⟩
   | none=>⟨sl,H,nm,rg,rd,ws⟩
  | _=>⟨sl,H,nm,rg,rd,ws⟩
 | .cellN n i sz p Yf tk ty,⟨sl,H,nm,rg,rd,ws⟩=>match look H n with
  | some (.lay cs t)=>match cs[i]? with
   | some v=>match uQ v with
    | true=>⟨sl,(n,.lay (cs.set i (.g nm (nm+1) sz 0 0)) t)::(nm,.nst (nm+1) sz 0 (λ_=>[]) p Yf (λ_=>(0,λ_=>[])) tk ty none)::H,nm+2,rg,rd,ws⟩
    | false=>⟨sl,H,nm,rg,rd,ws⟩
   | none=>⟨sl,H,nm,rg,rd,ws⟩
  | _=>⟨sl,H,nm,rg,rd,ws⟩
 | .bP M,⟨sl,H,nm,rg,rd,ws⟩=>match yT nm0 M H with
  | some (m1,sb)=>⟨qC m1 sl,(M,sb)::(m1,.gone)::w8 m1 H,nm,rg,rd,ws⟩
  | none=>⟨sl,H,nm,rg,rd,ws⟩
def trs(nm0:Nat):List Tr->St->St
 | [],st=>st
 | t::r,st=>trs nm0 r (tr1 nm0 t st)
def Iq(nm0:Nat)(σ:List (Nat×Nat))(X4 st:St):Prop:=match LS nm0 σ X4 with|true=>aT (nX (NB X4.nm σ st X4.sl) (vqH X4.nm σ st X4.H))|false=>False
structure Cut where
 α:Type
 P:α->Prop
 J:α->St
 μ:α->Nat
def Cut.at_(c:Cut)(nm0:Nat)(st:St)(Q:c.α->Prop):Prop:=∃(a:c.α) (σ:List (Nat×Nat)) (t:List Tr),Q a∧c.P a∧Iq nm0 σ (c.J a) (trs nm0 t st)
def yo:Code->Option Nat
 | .region id _ _=>some id
 | .seq x _=>yo x
 | .block _ x=>yo x
 | .loop x=>yo x
 | _=>none
def cutAt(cuts:List Nat)(c:Code):Bool:=match yo c with|none=>false|some id=>rP id cuts
def zh(K:Ex->St->Prop)(M:St->Prop):Ex->St->Prop
 | .normal,st=>M st
 | .exit i,st=>K (.exit i) st
 | .ret,st=>K .ret st
def unr(f:St->(Ex->St->Prop)->Prop):Nat->St->(Ex->St->Prop)->Prop
 | 0,_,_=>False
 | n+1,st,K=>f st (zh K λX4=>unr f n X4 K)
structure How where
 fl:List Nat
 cuts:List Nat
 invs:List Nat
 fu:Nat
def ev{PP:Program}{C:Cx PP}(Γ:List (XR C))(nt nm0:Nat)(I:Inl)(inls:List Nat)(h:How):Code->St->(Ex->St->Prop)->Prop
 | .skip,st,K=>K .normal st
 | .region id ops draw,st,K=>pt Γ nt I inls (Rq h.fl id) (rP (1000+id) h.fl) ops draw st (K .normal)
 | .seq x y,st,K=>match cutAt h.cuts y with
  | false=>ev Γ nt nm0 I inls h x st (zh K λX4=>ev Γ nt nm0 I inls h y X4 K)
  | true=>∃c:Cut,ev Γ nt nm0 I inls h x st (zh K λX4=>c.at_ nm0 X4 λ_=>True)∧∀a,c.P a->ev Γ nt nm0 I inls h y (c.J a) K
 | .cond c x y,st,K=>match rl st.sl c with
  | some (.bl true)=>match cutAt h.cuts x with
   | false=>ev Γ nt nm0 I inls h x st K
   | true=>∃c:Cut,c.at_ nm0 st (λ_=>True)∧∀a,c.P a->ev Γ nt nm0 I inls h x (c.J a) K
  | some (.bl false)=>ev Γ nt nm0 I inls h y st K
  | some (.v (.bool b))=>match cutAt h.cuts x with
   | false=>(b=true->ev Γ nt nm0 I inls h x st K)∧(b=false->ev Γ nt nm0 I inls h y st K)
   | true=>(b=true->∃c:Cut,c.at_ nm0 st (λ_=>True)∧∀a,c.P a->ev Γ nt nm0 I inls h x (c.J a) K)∧(b=false->ev Γ nt nm0 I inls h y st K)
  | _=>False
 | .block id x,st,K=>ev Γ nt nm0 I inls h x st λe X4=>match e with
  | .normal=>K .normal X4
  | .exit i=>match Nat.beq i id with|true=>K .normal X4|false=>K (.exit i) X4
  | .ret=>K .ret X4
 | .loop x,st,K=>match cutAt h.invs x with
  | false=>unr (λst K=>ev Γ nt nm0 I inls h x st K) h.fu st K
  | true=>∃c:Cut,c.at_ nm0 st (λ_=>True)∧∀a,c.P a->ev Γ nt nm0 I inls h x (c.J a) (zh K λX4=>c.at_ nm0 X4 λb=>c.μ b<c.μ a)
 | .exit id,st,K=>K (.exit id) st
 | .ret,st,K=>K .ret st
 | _,_,_=>False
def dL(fl:List Nat):Code->Bool
 | .region id ops draw=>Et (Rq fl id) ops draw&&ops.toList.all OJ
 | .seq x y=>dL fl x&&dL fl y
 | .cond _ x y=>dL fl x&&dL fl y
 | .block _ x=>dL fl x
 | .loop x=>dL fl x
 | _=>true
theorem fQ{b:Bool}{m:List Prop}(h:eqO b l=some m):b=true∧m=l:=by unfold eqO at h;split at h;exact⟨rfl,(Oi h).symm⟩;cases h
theorem eI{a b:Option (List Prop)}(h:nX a b=some l):∃p q,a=some p∧b=some q∧l=p++q:=by unfold nX at h;split at h;exact⟨_,_,rfl,rfl,(Oi h).symm⟩;cases h
theorem fw{n':Nat}(h:kB nm σ n' n=true):n'<nm∧ZK σ n'=n:=by unfold kB at h;split at h;rename_i hb;rw[Nat.blt_eq] at hb;exact⟨hb,Nb h⟩;cases h
theorem ql{σ:List (Nat×Nat)}{o m:Nat} : ∀{k:Nat},Hj σ o k=some m->m<k∧ZK σ m=o
 | 0,h=>by cases h
 | k+1,h=>by simp only[Hj] at h;split at h;rename_i hb;obtain rfl:=Oi h;exact⟨Nat.lt_succ_self _,Nb hb⟩;have:=ql h;exact⟨by omega,this.2⟩
theorem E5{σ:List (Nat×Nat)}{m:Nat} : ∀{k:Nat},m<k->∃m',Hj σ (ZK σ m) k=some m'
 | 0,h=>by omega
 | k+1,h=>by simp only[Hj];split;exact⟨k,rfl⟩;rename_i hb;have:m≠k:=(by rintro rfl;rw[Xv] at hb;cases hb);exact E5 (by omega)
def DV(nm:Nat)(σ:List (Nat×Nat)):Prop:=∀i j,i<nm->j<nm->ZK σ i=ZK σ j->i=j
theorem qH(hn:n<nm)(h:ρ.n (ZK σ n)=some b):(iY nm σ ρ).n n=some b:=by
 have hb:Nat.blt n nm=true:=by rw[Nat.blt_eq];exact hn
 simp only[iY,hb,h]
theorem iz(h:(iY nm σ ρ).n n=some b):n<nm∧ρ.n (ZK σ n)=some b:=by simp only[iY] at h;split at h;rename_i hb;rw[Nat.blt_eq] at hb;exact⟨hb,h⟩;cases h
theorem u0{l:LV}(hi:DV nm σ)(he:e<nm)(hm:m<nm)(h:ρ.v (ZK σ e)=some l)(ho:l.o=ZK σ m):(iY nm σ ρ).v e=some ⟨m,l.a,l.cap,l.N⟩:=by
 have hb:Nat.blt e nm=true:=by rw[Nat.blt_eq];exact he
 obtain⟨m',hm'⟩:=E5 (σ:=σ) hm;have hmm:m'=m:=by obtain⟨h1,h2⟩:=ql hm';exact hi m' m h1 hm h2
 subst hmm;simp only[iY,hb,h,ho,hm']
theorem gj{l:LV}(h:(iY nm σ ρ).v e=some l):e<nm∧l.o<nm∧∃l0,ρ.v (ZK σ e)=some l0∧l0.o=ZK σ l.o∧l.a=l0.a∧l.cap=l0.cap∧l.N=l0.N:=by simp only[iY] at h;split at h;rename_i hb;rw[Nat.blt_eq] at hb;split at h;rename_i l0 hl;split at h;rename_i o ho;obtain rfl:=Oi h;obtain⟨h1,h2⟩:=ql ho;exact⟨hb,h1,l0,hl,h2.symm,rfl,rfl,rfl⟩;cases h;cases h;cases h
theorem u6{l:LV}(hn:m<nm)(h:ρ.k (ZK σ m) i=some l):(iY nm σ ρ).k m i=some l:=by
 have hb:Nat.blt m nm=true:=by rw[Nat.blt_eq];exact hn
 simp only[iY,hb,h]
theorem dI{l:LV}(h:(iY nm σ ρ).k m i=some l):m<nm∧ρ.k (ZK σ m) i=some l:=by simp only[iY] at h;split at h;rename_i hb;rw[Nat.blt_eq] at hb;exact⟨hb,h⟩;cases h
theorem nu(h:bM (iY nm σ ρ) n b):n<nm∧bM ρ (ZK σ n) b:=by
 rcases h with h|⟨e,l,o,h1,h2,h3,h4⟩|⟨i,l,o,h1,h3,h4⟩
 obtain⟨k1,k2⟩:=iz h;exact⟨k1,.inl k2⟩;obtain⟨k1,k2,l0,k3,k4,k5,k6,k7⟩:=gj h1;subst h2;exact⟨k2,.inr (.inl ⟨_,l0,o,k3,k4,by rw[<-k6];exact h3,by rw[<-k5];exact h4⟩)⟩;obtain⟨k1,k2⟩:=dI h1;exact⟨k1,.inr (.inr ⟨i,l,o,k2,h3,h4⟩)⟩
theorem nq(nm:Nat)(σ:List (Nat×Nat))(ρ:Names):(iY nm σ ρ.zo).le (iY nm σ ρ).zo:=
 ⟨λn b h=>(by obtain⟨-,h⟩:=iz h;cases h),λn b h=>(by obtain⟨-,-,l,h,-⟩:=gj h;cases h),λn i b h=>(by obtain⟨-,h⟩:=dI h;cases h),λ_ _ _ h=>h⟩
theorem I6{k:IntKind}{a:Int}{x:SV}(h:vqI k a x=some l)(hc:aD l)(hd:den ρ x y):y=.int k a:=by unfold vqI at h;split at h;cases h;rename_i k' b hx;obtain⟨hk,rfl⟩:=fQ h;have hc:a=b:=hc;rw[SV.int?_den hx hd,hc,gC hk]
theorem I8{a:Bool}{x:SV}(h:vqB a x=some l)(hc:aD l)(hd:den ρ x y):y=.bool a:=by unfold vqB at h;split at h;cases h;rename_i b hx;obtain rfl:=Oi h;have hc:a=b:=hc;rw[SV.bool?_den hx hd,hc]
theorem RS{z:Value}{x:SV}(h:vqV z x=some l)(hc:aD l)(hd:den ρ x y):y=z:=by unfold vqV at h;split at h;obtain rfl:=Oi h;have hc:z=_:=hc;rw[hc];exact hd;cases h
mutual
theorem zc{nm:Nat}{σ:List (Nat×Nat)}(hi:DV nm σ):∀(v' v:SV) (l:List Prop),vq nm σ v' v=some l->aD l->∀(ρ:Names) (y:Value),den ρ v y->den (iY nm σ ρ) v' y
 | .v z,x,l,h,hc,ρ,y,hd=>by
  cases z
  case int k b=>exact I6 h hc hd
  case bool b=>exact I8 h hc hd
  all_goals exact RS h hc hd
 | .il k b,x,l,h,hc,ρ,y,hd=>I6 h hc hd
 | .bl b,x,l,h,hc,ρ,y,hd=>I8 h hc hd
 | .p n off,x,l,h,hc,ρ,y,hd=>by simp only[vq] at h;split at h;split at h;rename_i hn;obtain⟨ho,-⟩:=fQ h;have ho:=Nb ho;obtain⟨h1,rfl⟩:=fw hn;obtain⟨b,e1,e2⟩:=hd;exact⟨b,qH h1 e1,by rw[ho];exact e2⟩;cases h;cases h
 | .s n sz off len cap,x,l,h,hc,ρ,y,hd=>by simp only[vq] at h;split at h;split at h;rename_i hn b1 b2 b3;obtain⟨b4,-⟩:=fQ h;have b2:=Nb b2;have b3:=Nb b3;have b4:=Nb b4;obtain⟨h1,rfl⟩:=fw hn;obtain⟨b,e1,e2⟩:=hd;exact⟨b,qH h1 e1,by rw[b2,b3,b4];exact e2⟩;cases h;cases h
 | .f fn p q,x,l,h,hc,ρ,y,hd=>by simp only[vq] at h;split at h;obtain⟨l1,l2,h1,h2,rfl⟩:=eI h;obtain⟨l3,l4,h3,h4,rfl⟩:=eI h2;obtain rfl:=Oi h1;obtain⟨c1,c2⟩:=b8 hc;obtain⟨c3,c4⟩:=b8 c2;obtain⟨u,w,e1,e2,e3⟩:=hd;have c1:fn=_:=c1;exact⟨u,w,iE hi p _ l3 h3 c3 ρ u e1,iE hi q _ l4 h4 c4 ρ w e2,by rw[c1];exact e3⟩;cases h
 | .agg m,x,l,h,hc,ρ,y,hd=>by simp only[vq] at h;split at h;obtain⟨u,e1,e2⟩:=hd;exact⟨u,iE hi m _ l h hc ρ u e1,e2⟩;cases h
 | .tup m,x,l,h,hc,ρ,y,hd=>by simp only[vq] at h;split at h;obtain⟨u,e1,e2⟩:=hd;exact⟨u,iE hi m _ l h hc ρ u e1,e2⟩;cases h
 | .e,x,l,h,hc,ρ,y,hd=>by simp only[vq] at h;split at h;exact hd;obtain rfl:y=_:=hd;exact⟨_,rfl⟩;cases h
 | .rs sz n f,x,l,h,hc,ρ,y,hd=>by
  simp only[vq] at h;split at h
  ·obtain⟨hb,rfl⟩:=fQ h;have hb:=Nb hb;obtain⟨c1,c2⟩:=du hc;subst c1 hb;obtain⟨a,cap,e1,e2,e3⟩:=hd;refine⟨a,cap,e1,e2,λi YT=>?_⟩;obtain⟨b,o,u,k1,k2,k3⟩:=e3 i YT;have hci:=(show ∀i,i<n->_ from c2) i YT;refine⟨b,o,u,k1,?_,k3⟩;generalize hq:Yv nm σ (f i) _=q at hci;cases q with
   | none=>exact hci.elim
   | some q=>exact aK (nq nm σ ρ) _ _ (iE hi (f i) _ q hq hci ρ.zo u k2)
  obtain rfl:=Oi h;have hc:n=0:=hc;subst hc;obtain⟨a,rfl⟩:=hd;exact⟨a,0,rfl,F2 _,λi YT=>P' YT (by omega)⟩;obtain rfl:=Oi h;have hc:n=0:=hc;subst hc;obtain rfl:y=_:=hd;exact⟨none,0,rfl,F2 _,λi YT=>P' YT (by omega)⟩;cases h
 | .rp m off,x,l,h,hc,ρ,y,hd=>by simp only[vq] at h;split at h;obtain⟨l1,l2,h1,h2,rfl⟩:=eI h;obtain rfl:=Oi h1;obtain⟨c1,c2⟩:=b8 hc;have c1:off=_:=c1;obtain⟨b,o,u,e1,e2,e3⟩:=hd;exact⟨b,o,u,by rw[c1];exact e1,aK (nq nm σ ρ) _ _ (iE hi m _ l2 h2 c2 ρ.zo u e2),e3⟩;cases h
 | .g m e sz off n,x,l,h,hc,ρ,y,hd=>by simp only[vq] at h;split at h;split at h;rename_i hm he;obtain⟨hb,rfl⟩:=fQ h;have hb:=Nb hb;obtain⟨c1,c2⟩:=du hc;have c2:n=_:=c2;subst c1 c2 hb;obtain⟨m1,rfl⟩:=fw hm;obtain⟨m2,rfl⟩:=fw he;obtain⟨lv,e1,e2,e3,e4,e5⟩:=hd;exact⟨_,u0 hi m2 m1 e1 e2,rfl,e3,e4,e5⟩;cases h;cases h
 | .gp m e sz i off,x,l,h,hc,ρ,y,hd=>by simp only[vq] at h;split at h;split at h;rename_i hm he;obtain⟨hb,rfl⟩:=fQ h;have hb:=Nb hb;obtain⟨c1,c2⟩:=du hc;have c2:off=_:=c2;subst c1 c2 hb;obtain⟨m1,rfl⟩:=fw hm;obtain⟨m2,rfl⟩:=fw he;obtain⟨lv,b,e1,e2,e3,e4,e5,e6⟩:=hd;exact⟨_,b,u0 hi m2 m1 e1 e2,rfl,e3,e4,e5,e6⟩;cases h;cases h
 | .m n,x,l,h,hc,ρ,y,hd=>by simp only[vq] at h;split at h;split at h;rename_i hm;obtain⟨m1,rfl⟩:=fw hm;obtain⟨b,e1,e2⟩:=hd;exact⟨b,qH m1 e1,e2⟩;cases h;cases h
 | .kd m i sz off n,x,l,h,hc,ρ,y,hd=>by simp only[vq] at h;split at h;split at h;rename_i hm;obtain⟨hb,rfl⟩:=fQ h;have hb:=Nb hb;obtain⟨c1,c2⟩:=du hc;obtain⟨c2,c3⟩:=du c2;have c3:n=_:=c3;subst c1 c2 c3 hb;obtain⟨m1,rfl⟩:=fw hm;obtain⟨lv,e1,e2⟩:=hd;exact⟨lv,u6 m1 e1,e2⟩;cases h;cases h
 | .kq m i sz j off,x,l,h,hc,ρ,y,hd=>by simp only[vq] at h;split at h;split at h;rename_i hm;obtain⟨hb,rfl⟩:=fQ h;have hb:=Nb hb;obtain⟨c1,c2⟩:=du hc;obtain⟨c2,c3⟩:=du c2;have c3:off=_:=c3;subst c1 c2 c3 hb;obtain⟨m1,rfl⟩:=fw hm;obtain⟨lv,b,e1,e2⟩:=hd;exact⟨lv,b,u6 m1 e1,e2⟩;cases h;cases h
theorem iE{nm:Nat}{σ:List (Nat×Nat)}(hi:DV nm σ):∀(v' v:List SV) (l:List Prop),Yv nm σ v' v=some l->aD l->∀(ρ:Names) (y:List Value),au ρ v y->au (iY nm σ ρ) v' y
 | [],x,l,h,hc,ρ,y,hd=>by
  cases x with
  | nil=>exact hd
  | cons _ _=>cases h
 | v'::r,x,l,h,hc,ρ,y,hd=>by
  cases x with
  | nil=>cases h
  | cons x s=>
   obtain⟨l1,l2,h1,h2,rfl⟩:=eI h;obtain⟨c1,c2⟩:=b8 hc;obtain⟨a,b,e1,e2,e3⟩:=hd;exact⟨a,b,e1,zc hi v' x l1 h1 c1 ρ a e2,iE hi r s l2 h2 c2 ρ b e3⟩
end
theorem Ec{nm:Nat}{σ:List (Nat×Nat)}{st:St} : ∀{l:List (Nat×Slot)} {p:List Prop},NB nm σ st l=some p->aD p->∀t s',look l t=some s'->∃s q,look st.sl t=some s∧s.g=[]∧vq nm σ s'.v s.v=some q∧aD q
 | [],_,_,_,t,s',h=>by cases h
 | (u,x)::r,p,h,hc,t,s',hs=>by simp only[NB] at h;split at h;cases h;rename_i s hl;split at h;rename_i hg _;obtain⟨l1,l2,h1,h2,rfl⟩:=eI h;obtain⟨c1,c2⟩:=b8 hc;by_cases e:u=t;subst e;rw[ai] at hs;obtain rfl:=Oi hs;exact⟨s,l1,hl,hg,h1,c1⟩;rw[ah _ _ e] at hs;exact Ec h2 c2 t s' hs;cases h
theorem I7{nm:Nat}{σ:List (Nat×Nat)}{st:St} : ∀{l:aU} {p:List Prop},vqH nm σ st l=some p->aD p->∀n Yu,look l n=some Yu->n<nm∧∃sb q,look st.H (ZK σ n)=some sb∧Ce nm σ n Yu sb=some q∧aD q
 | [],_,_,_,t,s',h=>by cases h
 | (u,x)::r,p,h,hc,t,s',hs=>by simp only[vqH] at h;split at h;rename_i sb hl hb;rw[Nat.blt_eq] at hb;obtain⟨l1,l2,h1,h2,rfl⟩:=eI h;obtain⟨c1,c2⟩:=b8 hc;by_cases e:u=t;subst e;rw[ai] at hs;obtain rfl:=Oi hs;exact⟨hb,sb,l1,hl,h1,c1⟩;rw[ah _ _ e] at hs;exact I7 h2 c2 t s' hs;cases h
theorem Ed{nm:Nat}{σ:List (Nat×Nat)}(hi:DV nm σ){ρ:Names}{z:Value} : ∀{a b:List SV} {p:Nat} {q:List Prop} {us:List Value},Yv nm σ (a.set p .e) (b.set p .e)=some q->aD q->au ρ (b.set p (.v z)) us->au (iY nm σ ρ) (a.set p (.v z)) us
 | [],b,p,q,us,h,hc,hd=>by
  cases b with
  | nil=>exact hd
  | cons y s=>cases p<;>cases h
 | x::r,b,p,q,us,h,hc,hd=>by
  cases b with
  | nil=>cases p<;>cases h
  | cons y s=>
   cases p with
   | zero=>
    obtain⟨l1,l2,h1,h2,rfl⟩:=eI h;obtain⟨c1,c2⟩:=b8 hc;obtain⟨a,b,e1,e2,e3⟩:=hd;exact⟨a,b,e1,e2,iE hi r s l2 h2 c2 ρ b e3⟩
   | succ p=>
    obtain⟨l1,l2,h1,h2,rfl⟩:=eI h;obtain⟨c1,c2⟩:=b8 hc;obtain⟨a,b,e1,e2,e3⟩:=hd;exact⟨a,b,e1,zc hi x y l1 h1 c1 ρ a e2,Ed hi h2 c2 e3⟩
theorem RU(hi:DV nm σ)(hn:n<nm){N':Nat}{h h':Nat->List SV}{g g':Nat->Nat×(Nat->List SV)}{tk t:TypeId}(he:e<nm){W:World}(c1:N=N')(c2:∀i,i<N'->aT (Yv nm σ ((h i).set p .e) ((h' i).set p .e)))(c3:∀i,i<N'->(g i).1=(g' i).1)(c4:∀i,i<N'->∀j,j<(g' i).1->aT (Yv nm σ ((g i).2 j) ((g' i).2 j)))(hd:cS ρ W (ZK σ n) (.nst (ZK σ e) sz N' h' p Yf g' tk t none)):cS (iY nm σ ρ) W n (.nst e sz N h p Yf g tk t none):=by
 subst c1;obtain⟨l,K⟩:=hd;refine⟨_,u0 hi he hn K.hv K.ho,rfl,K.hN,K.hle,λYm=>?_,λi YT=>?_,λi YT=>?_,λi j q r b h1 h2=>K.ne i j q r b (dI h1).2 (dI h2).2⟩
 ·obtain⟨b,u,k1,k2,k3,k4,k5,k6,-,k8⟩:=K.row Ym;refine⟨b,u,k1,k2,k3,k4,k5,λi YT=>?_,(λcs Z5=>by cases Z5),λi q b' h1=>k8 i q b' (dI h1).2⟩;obtain⟨q,us,q1,q2,q3⟩:=k6 i YT;refine⟨q,us,u6 hn q1,?_,q3⟩;have hci:=c2 i YT;generalize hq:Yv nm σ _ _=x at hci;cases x with
  | none=>exact hci.elim
  | some x=>exact aK (nq nm σ ρ) _ _ (Ed hi hq hci q2)
 ·obtain⟨q,q1,q2,q3⟩:=K.kid i YT;refine⟨q,u6 hn q1,by rw[c3 i YT];exact q2,q3.1,λhc=>?_⟩;obtain⟨b,u,k1,k2,k3,k4,k5,k6⟩:=q3.2 hc;refine⟨b,u,k1,k2,k3,k4,k5,λj hj=>?_⟩;obtain⟨us,p1,p2⟩:=k6 j hj;refine⟨us,?_,p2⟩;have hci:=c4 i YT j (by omega);generalize hq:Yv nm σ _ _=x at hci;cases x with
  | none=>exact hci.elim
  | some x=>exact aK (nq nm σ ρ) _ _ (iE hi _ _ x hq hci ρ.zo us p1)
 cases hk:(iY nm σ ρ).k n i with
 | none=>rfl
 | some l=>
  have:=(dI hk).2;rw[K.no i YT] at this;cases this
theorem NC(hi:DV nm σ)(hn:n<nm){Yu:SB}{q:List Prop}(h:Ce nm σ n Yu sb=some q)(hc:aD q){W:World}(hd:cS ρ W (ZK σ n) sb):cS (iY nm σ ρ) W n Yu:=by
 cases Yu with
 | gone=>trivial
 | mp k ag has g=>
  simp only[Ce] at h;split at h
  ·split at h
   ·rename_i hk ha;obtain rfl:=Oi h;obtain rfl:=kr hk;obtain rfl:=wj ha;obtain⟨c1,c2⟩:=du hc;obtain rfl:has=_:=funext c1;obtain⟨b,es,cl,h1,h2,h3,h4⟩:=hd;refine⟨b,es,cl,qH hn h1,h2,h3,λx hx=>?_,h4.yes⟩;obtain⟨m,q1,q2,u,q3,q4⟩:=h4.keys x hx;have hci:=(show ∀j,has j=true->_ from c2) m q2;refine⟨m,q1,q2,u,?_,q4⟩;generalize hq:Yv nm σ (g m) _=q at hci;cases q with
    | none=>exact hci.elim
    | some q=>exact aK (nq nm σ ρ) _ _ (iE hi (g m) _ q hq hci ρ.zo u q3)
   cases h
  cases h
 | lay cs t=>
  simp only[Ce] at h;split at h;split at h;rename_i hb;have hb:=Nb hb;subst hb;obtain⟨b,vs,h1,h2,h3,h4,h5⟩:=hd;exact⟨b,vs,qH hn h1,iE hi cs _ q h hc ρ vs h2,h3,h4,h5⟩;cases h;cases h
 | lst e sz N f t=>
  simp only[Ce] at h;split at h
  ·split at h
   ·rename_i he hs;obtain⟨hb,rfl⟩:=fQ h;have hb:=Nb hb;have hs:=Nb hs;obtain⟨c1,c2⟩:=du hc;subst hb hs c1;obtain⟨m2,rfl⟩:=fw he;obtain⟨l,h1,h2,h3,h4,h5⟩:=hd;refine⟨_,u0 hi m2 hn h1 h2,rfl,h3,h4,λYm=>?_⟩;obtain⟨b,u,k1,k2,k3,k4,k5,k6⟩:=h5 Ym;refine⟨b,u,k1,k2,k3,k4,k5,λi YT=>?_⟩;obtain⟨us,q1,q2⟩:=k6 i YT;have hci:=(show ∀i,i<N->_ from c2) i YT;refine⟨us,?_,q2⟩;generalize hq:Yv nm σ (f i) _=q at hci;cases q with
    | none=>exact hci.elim
    | some q=>exact aK (nq nm σ ρ) _ _ (iE hi (f i) _ q hq hci ρ.zo us q1)
   cases h
  cases h
 | nst e sz N f p Yf g tk t last=>
  simp only[Ce] at h;split at h;split at h;rename_i hl1 hl2 he hs hp hsk Y7;obtain⟨hb,rfl⟩:=fQ h;have hb:=Nb hb;have hs:=Nb hs;have hp:=Nb hp;have hsk:=Nb hsk;have Y7:=Nb Y7;obtain⟨c1,c2⟩:=du hc;obtain⟨c2,c3⟩:=du c2;obtain⟨c3,c4⟩:=du c3;subst hb hs hp hsk Y7;obtain⟨m2,rfl⟩:=fw he;exact RU hi hn m2 c1 c2 c3 c4 hd;cases h;cases h
theorem qw{σ:List (Nat×Nat)}{m:Nat} : ∀{k:Nat},yp σ m k=true->∀i,i<k->ZK σ i≠ZK σ m
 | 0,_,i,hi=>by omega
 | k+1,h,i,hi=>by simp only[yp] at h;split at h;cases h;rename_i hb;rcases Xs (Nat.le_of_lt_succ hi) with rfl|hi;intro e;rw[e,Xv] at hb;cases hb;exact qw h i hi
theorem E7{σ:List (Nat×Nat)} : ∀{k:Nat},Pa σ k=true->∀i j,i<k->j<k->ZK σ i=ZK σ j->i=j
 | 0,_,i,j,hi,_,_=>by omega
 | k+1,h,i,j,hi,hj,e=>by simp only[Pa] at h;split at h;rename_i hf;rcases Xs (Nat.le_of_lt_succ hi) with rfl|hi;rcases Xs (Nat.le_of_lt_succ hj) with rfl|hj;rfl;exact P' e.symm (qw hf j hj);rcases Xs (Nat.le_of_lt_succ hj) with rfl|hj;exact P' e (qw hf i hi);exact E7 h i j hi hj e;cases h
theorem Fo{σ:List (Nat×Nat)} : ∀{k:Nat},Pu σ k=true->∀i,i<k->ZK σ i=i
 | 0,_,i,hi=>by omega
 | k+1,h,i,hi=>by simp only[Pu] at h;split at h;rename_i hb;rcases Xs (Nat.le_of_lt_succ hi) with rfl|hi;exact Nb hb;exact Fo h i hi;cases h
theorem CC{rg:Nat} : ∀{l:List (Nat×Slot)},rgB rg l=true->∀t s,look l t=some s->s.rg<=rg
 | [],_,t,s,h=>by cases h
 | (u,x)::r,h,t,s,hs=>by simp only[rgB] at h;split at h;rename_i hb;by_cases e:u=t;subst e;rw[ai] at hs;obtain rfl:=Oi hs;exact F4 hb;rw[ah _ _ e] at hs;exact CC h t s hs;cases h
section
variable {C:Cx PP}{Γ:List (XR C)}{nt:Nat}{w0:World}{XN:Names}{I:Inl}{inls:List Nat}
def MZ(C:Cx PP)(nt:Nat)(w0:World)(XN:Names)(c:Code)(st:St)(K:Ex->St->Prop):Prop:=
 ∀ρ a W,Rp C nt w0 XN st ρ a W->wpR C.P C.co c (λe a' W'=>∃x X4 XM,e=Ex.to x∧K x X4∧Rp C nt w0 XN X4 XM a' W') a W
theorem gF{W:World}(h:Rp C nt w0 XN st ρ a W){x:Operand}(e:rl st.sl x=some v):den ρ v (a.eval x):=by rw[G2] at e;split at e;obtain rfl:=Oi e;exact jT;obtain rfl:=Oi e;rfl;obtain rfl:=Oi e;rfl;split at e;cases e;rename_i s hs;split at e;rename_i hg;obtain rfl:=Oi e;obtain⟨y,h1,h2⟩:=h.cw _ s hs hg;rw[aY h2];exact h1;cases e
theorem Iq.rp{X4:St}{W:World}(X5:∀n b,XN.n n=some b->n<nm0)(XP:∀e l,XN.v e=some l->e<nm0∧l.o<nm0)(XQ:∀m i l,XN.k m i=some l->m<nm0)(h:Iq nm0 σ X4 st)(hr:Rp C nt w0 XN st ρ a W):Rp C nt w0 XN X4 (iY X4.nm σ ρ) a W:=by
 unfold Iq at h;split at h
 rotate_left
 exact h.elim;rename_i h1;generalize hq:nX _ _=q at h;cases q with
 | none=>exact h.elim
 | some q=>
 obtain⟨l1,l2,h2,h3,rfl⟩:=eI hq;obtain⟨d1,d2⟩:=b8 h;unfold LS at h1;split at h1;rename_i c1 c2 c3 c4;have c1:=F4 c1;have c2:DV X4.nm σ:=E7 c2;have c3:=Fo c3;have c4:=CC c4;have hm:=hr.base.mem;refine⟨⟨⟨⟨λn n' b k1 k2=>?_,λn b k=>hm.hb.low _ b (nu k).2,hm.hb.zok,hm.hb.grd⟩,λn b k=>(iz k).1,λe l k=>⟨(gj k).1,(gj k).2.1⟩,λm i l k=>(dI k).1,⟨λn b k=>?_,λe l k=>?_,λm i l k=>?_,hm.le.z⟩,λn b k=>?_,hm.zold,hm.keep⟩,λn sb hn=>?_,hr.base.sz,hr.base.df⟩,c4,λt s hs hg=>?_⟩;obtain⟨q1,q2⟩:=nu k1;obtain⟨q3,q4⟩:=nu k2;exact c2 n n' q1 q3 (hm.hb.own _ _ b q2 q4);have:=X5 n b k;exact qH (by omega) (by rw[c3 n this];exact hm.le.n n b k);obtain⟨q1,q2⟩:=XP e l k;have:=u0 (nm:=X4.nm) (σ:=σ) (ρ:=ρ) (e:=e) (m:=l.o) (l:=l) c2 (by omega) (by omega) (by rw[c3 e q1];exact hm.le.v e l k) (by rw[c3 _ q2]);exact this;have:=XQ m i l k;exact u6 (by omega) (by rw[c3 m this];exact hm.le.k m i l k);exact hm.old _ b (nu k).2;obtain⟨k1,sb2,q,k2,k3,k4⟩:=I7 h3 d2 n sb hn;exact NC c2 k1 k3 k4 (hr.base.blk _ sb2 k2);obtain⟨s2,q,k1,k2,k3,k4⟩:=Ec h2 d1 t s hs;obtain⟨x,k5,k6⟩:=hr.cw t s2 k1 k2;exact⟨x,zc c2 _ _ q k3 k4 ρ x k5,k6⟩;cases h1
theorem zy{l:List Value}(h:l[i]? = some y):l.set i y=l:=by apply List.ext_getElem?;intro j;by_cases e:i=j;subst e;rw[List.getElem?_set_self (F3.1 h).1,h];rw[List.getElem?_set_ne e]
theorem qA(h:uQ v=true)(hd:den ρ v y):∃a,y=.slice a 0 0:=by unfold uQ at h;split at h;exact hd;exact⟨_,hd⟩;cases h
theorem oI{m:Nat}{sb:SB}{t:Nat} : ∀{l:List (Nat×Slot)},look (AA m sb l) t=(look l t).map λs=>⟨s.rg,s.k,s.g,vQ m sb s.v⟩
 | []=>rfl
 | (u,s)::r=>by by_cases he:u=t;subst he;simp only[AA,ai];rfl;simp only[AA,ah _ _ he];exact oI
theorem wT{m:Nat}{sb:SB}{t:Nat} : ∀{l:aU},look (Lf m sb l) t=(look l t).map λs=>Rr m sb s
 | []=>rfl
 | (u,s)::r=>by by_cases he:u=t;subst he;simp only[Lf,ai];rfl;simp only[Lf,ah _ _ he];exact wT
def G0(ρ:Names)(W:World)(m:Nat):Nat->Nat->Value->Prop:=λb i c=>bM ρ m b∧W.cell? ⟨b,i,none⟩=some c∧c.oneCell'=true
theorem nW{W:World}{h:Nat->List SV}{g:Nat->Nat×(Nat->List SV)}{tk t:TypeId}{last:Option (List SV)}{Z:Nat->Nat->Value->Prop}(hc:cS ρ W n (.nst e sz N h p Yf g tk t last))(hz:∀b i c,bM ρ n b->¬Z b i c):cS (ρ.kP Z) W n (.nst e sz N h p Yf g tk t last):=by
 obtain⟨l,K⟩:=hc;refine⟨l,K.hv,K.ho,K.hN,K.hle,λYm=>?_,λi hi=>?_,K.no,K.ne⟩
 ·obtain⟨b,u,k1,k2,k3,k4,k5,k6,k7,k8⟩:=K.row Ym;exact⟨b,u,k1,k2,k3,k4,λi c Y4=>by
   rcases Y4 with Y4|Y4;exact k5 i c Y4
   ·exact hz b i c (.inr (.inl ⟨e,l,0,K.hv,K.ho,Ym,k1⟩)) Y4,λi hi=>let ⟨q,us,q1,q2,q3⟩:=k6 i hi;⟨q,us,q1,aK (Names.le.zo Names.bz) _ _ q2,q3⟩,λcs Z5=>let ⟨us,q1,q2⟩:=k7 cs Z5;⟨us,aK Names.bz _ _ q1,q2⟩,k8⟩
 obtain⟨q,q1,q2,q3,q4⟩:=K.kid i hi;refine⟨q,q1,q2,q3,λYm=>?_⟩;obtain⟨b,u,k1,k2,k3,k4,k5,k6⟩:=q4 Ym;exact⟨b,u,k1,k2,k3,k4,λi' c Y4=>by
  rcases Y4 with Y4|Y4;exact k5 i' c Y4
  ·exact hz b i' c (.inr (.inr ⟨i,q,0,q1,Ym,k1⟩)) Y4,λi hi=>let ⟨us,q1,q2⟩:=k6 i hi;⟨us,aK (Names.le.zo Names.bz) _ _ q1,q2⟩⟩
mutual
theorem Ff{H:aU}{ρ:Names}{W:World}{m:Nat}{sb:SB}(hH:YH C H ρ W)(hk:look H m=some sb)(hp:Le sb=true):∀(x:SV) (v:Value),den ρ x v->den (ρ.kP (G0 ρ W m)) (vQ m sb x) v
 | .v _,_,hd=>hd
 | .il _ _,_,hd=>hd
 | .bl _,_,hd=>hd
 | .e,_,hd=>hd
 | .m n,v,hd=>bE (ρ:=ρ) Names.bz (.m n) v hd
 | .rs sz n f,v,hd=>bE (ρ:=ρ) Names.bz (.rs sz n f) v hd
 | .rp x off,v,hd=>bE (ρ:=ρ) Names.bz (.rp x off) v hd
 | .agg l,v,⟨u,e1,e2⟩=>⟨u,nf hH hk hp l u e1,e2⟩
 | .tup l,v,⟨u,e1,e2⟩=>⟨u,nf hH hk hp l u e1,e2⟩
 | .f fn x y,v,⟨u,w,e1,e2,e3⟩=>⟨u,w,nf hH hk hp x u e1,nf hH hk hp y w e2,e3⟩
 | .p n off,v,hd=>by have hold:den (ρ.kP (G0 ρ W m)) (.p n off) v:=hd;simp only[vQ];unfold Vx;split;rename_i cs t b1;have b1:=Nb b1;subst b1;obtain⟨b,e1,e2⟩:=hd;obtain⟨b',vs,k1,k2,k3,k4,k5⟩:=hH.blk n _ hk;rw[e1] at k1;obtain rfl:=Oi k1;exact⟨b,0,vs,by rw[B'];exact e2,aK (Names.le.zo Names.bz) _ _ (cJ _ _ hp k2),λk c hc=>.inr ⟨.inl e1,by rw[B',k3.cell];simpa using hc,k4 c (Xu hc)⟩⟩;exact hold
 | .s n sz off len cap,v,hd=>by have hold:den (ρ.kP (G0 ρ W m)) (.s n sz off len cap) v:=hd;simp only[vQ];unfold VA;split;rename_i cs t b0;have b0:=Nb b0;subst b0;split;rename_i b1 b2;have b1:=F4 b1;have b2:=F4 b2;obtain⟨b,e1,e2⟩:=hd;obtain⟨b',vs,k1,k2,k3,k4,k5⟩:=hH.blk n _ hk;rw[e1] at k1;obtain rfl:=Oi k1;have hd:=aK (Names.le.zo Names.bz) _ _ (cJ _ _ hp k2) (XM:=(ρ.kP (G0 ρ W n)).zo);have hlen:=aB hd;refine⟨_,_,e2,b2,λi hi=>⟨b,off,_,rfl,ji sz i (bS off hd),?_,λk c hc=>?_⟩⟩;have:i*sz+sz<=len*sz:=(by rw[<-Nat.succ_mul];exact Xo _ hi);simp only[List.length_take,List.length_drop];omega;rw[List.getElem?_take] at hc;split at hc;rw[List.getElem?_drop,List.getElem?_drop] at hc;refine .inr ⟨.inl e1,?_,k4 c (Xu hc)⟩;rw[k3.cell];simpa[Nat.add_assoc] using hc;cases hc;exact hold;exact hold
 | .g m' e' Yb off n,v,hd=>by simp only[vQ];unfold Vz;split;rename_i e sz N h t b1;have b1:=Nb b1;subst b1;split;rename_i b2 b3;have b2:=Nb b2;have b3:=Nb b3;subst b2 b3;obtain⟨a',cap,e1,e2,e3⟩:=m6 hH hk hd;exact⟨a',cap,e1,e2,λi hi=>let ⟨b,o,us,k1,k2,k3,k4,k5⟩:=e3 i hi;⟨b,o,us,k1,aK (Names.le.zo Names.bz) _ _ k2,k3,λk c hc=>.inr ⟨k5,k4 k c hc⟩⟩⟩;exact bE Names.bz _ _ hd;rename_i e sz N h p Yf g tk t b1;have b1:=Nb b1;subst b1;split;rename_i b2 b3;have b2:=Nb b2;have b3:=Nb b3;subst b2 b3;obtain⟨a',cap,e1,e2,e3⟩:=qc hH hk hd;exact⟨a',cap,e1,e2,λi hi=>let ⟨b,o,us,q,k1,f1,f2,f3,k2,k3,k4,k5⟩:=e3 i hi;⟨b,o,us,k1,xV f1 f2 f3 (λb i c h1 h2 h3=>.inr ⟨h3,h1,h2⟩) (Names.le.zo Names.bz) k2,k3,λk c hc=>.inr ⟨k5,k4 k c hc⟩⟩⟩;exact bE Names.bz _ _ hd;exact bE Names.bz _ _ hd
 | .gp m' e' Yb i off,v,hd=>by simp only[vQ];unfold Rs;split;rename_i e sz N h t b1;have b1:=Nb b1;subst b1;split;rename_i b2 b3;have b2:=Nb b2;have b3:=Nb b3;subst b2 b3;obtain⟨b,us,e1,e2,e3,e4,e5⟩:=yg hH hk hd;exact⟨b,i*Yb,us,e1,aK (Names.le.zo Names.bz) _ _ e2,λk c hc=>.inr ⟨e5,e4 k c hc⟩⟩;exact bE Names.bz _ _ hd;rename_i e sz N h p Yf g tk t b1;have b1:=Nb b1;subst b1;split;rename_i b2 b3;have b2:=Nb b2;have b3:=Nb b3;subst b2 b3;obtain⟨b,us,q,e1,f1,f2,f3,e2,e3,e4,e5⟩:=xU hH hk hd;exact⟨b,i*Yb,us,e1,xV f1 f2 f3 (λb i c h1 h2 h3=>.inr ⟨h3,h1,h2⟩) (Names.le.zo Names.bz) e2,λk c hc=>.inr ⟨e5,e4 k c hc⟩⟩;exact bE Names.bz _ _ hd;exact bE Names.bz _ _ hd
 | .kd m' i Yb off n,v,hd=>by simp only[vQ];unfold Vy;split;rename_i e sz N h p Yf g tk t b1;have b1:=Nb b1;subst b1;split;rename_i b2;have b2:=Nb b2;subst b2;obtain⟨a',cap,e1,e2,e3⟩:=qi hH hk hd;exact⟨a',cap,e1,e2,λi hi=>let ⟨b,o,us,k1,k2,k3,k4,k5⟩:=e3 i hi;⟨b,o,us,k1,aK (Names.le.zo Names.bz) _ _ k2,k3,λk c hc=>.inr ⟨k5,k4 k c hc⟩⟩⟩;exact bE Names.bz _ _ hd;exact bE Names.bz _ _ hd
 | .kq m' i Yb j off,v,hd=>by simp only[vQ];unfold Vw;split;rename_i e sz N h p Yf g tk t b1;have b1:=Nb b1;subst b1;split;rename_i b2;have b2:=Nb b2;subst b2;obtain⟨b,us,e1,f1,f2,e2,e3,e4,e5⟩:=yj hH hk hd;exact⟨b,j*Yb,us,e1,aK (Names.le.zo Names.bz) _ _ e2,λk c hc=>.inr ⟨e5,e4 k c hc⟩⟩;exact bE Names.bz _ _ hd;exact bE Names.bz _ _ hd
theorem nf{H:aU}{ρ:Names}{W:World}{m:Nat}{sb:SB}(hH:YH C H ρ W)(hk:look H m=some sb)(hp:Le sb=true):∀(x:List SV) (v:List Value),au ρ x v->au (ρ.kP (G0 ρ W m)) (C9 m sb x) v
 | [],_,hd=>hd
 | x::r,v,⟨a,b,e1,e2,e3⟩=>⟨a,b,e1,Ff hH hk hp x a e2,nf hH hk hp r b e3⟩
end
def Names.bP(ρ:Names)(M N m1:Nat)(q:LV):Names:=
 ⟨λn=>if n=m1 then none else ρ.n n,
 λe=>match ρ.v e with|some l=>if l.o=m1 then none else some l|none=>none,
 λm i=>if m=M∧i=N then some q else if m=m1 then none else ρ.k m i,
 ρ.z,ρ.d,ρ.o⟩
section
variable {m1:Nat}{q:LV}
theorem kR(hn:n≠m1)(h:ρ.n n=some b):(ρ.bP M N m1 q).n n=some b:=by simp only[Names.bP,Xk hn,h]
theorem kQ{l:LV}(hn:l.o≠m1)(h:ρ.v e=some l):(ρ.bP M N m1 q).v e=some l:=by simp only[Names.bP,h,Xk hn]
theorem mW(hn:m≠m1)(hi:¬(m=M∧i=N)):(ρ.bP M N m1 q).k m i=ρ.k m i:=by simp only[Names.bP,Xk hn,Xk hi]
theorem vp:(ρ.bP M N m1 q).k M N=some q:=by simp only[Names.bP,and_self,if_true]
theorem nZ(h:(ρ.bP M N m1 q).n n=some b):n≠m1∧ρ.n n=some b:=by simp only[Names.bP] at h;split at h;cases h;rename_i hn;exact⟨hn,h⟩
theorem nY{l:LV}(h:(ρ.bP M N m1 q).v e=some l):l.o≠m1∧ρ.v e=some l:=by simp only[Names.bP] at h;split at h;rename_i l' hl;split at h;cases h;rename_i hn;obtain rfl:=Oi h;exact⟨hn,hl⟩;cases h
theorem fS{l:LV}(h:(ρ.bP M N m1 q).k m i=some l):(m=M∧i=N∧l=q)∨(m≠m1∧ρ.k m i=some l):=by simp only[Names.bP] at h;split at h;rename_i hm;exact .inl ⟨hm.1,hm.2,(Oi h).symm⟩;split at h;cases h;rename_i hn;exact .inr ⟨hn,h⟩
theorem jV(h:bM (ρ.bP M N m1 q) n b):(n≠m1∧bM ρ n b)∨(n=M∧q.cap≠0∧∃o,q.a=some ⟨b,o,none⟩):=by
 rcases h with h|⟨e,l,o,h1,h2,h3,h4⟩|⟨i,l,o,h1,h3,h4⟩
 obtain⟨k1,k2⟩:=nZ h;exact .inl ⟨k1,.inl k2⟩;obtain⟨k1,k2⟩:=nY h1;exact .inl ⟨by rw[<-h2];exact k1,.inr (.inl ⟨e,l,o,k2,h2,h3,h4⟩)⟩;rcases fS h1 with ⟨rfl,rfl,rfl⟩|⟨k1,k2⟩
 exact .inr ⟨rfl,h3,o,h4⟩;exact .inl ⟨k1,.inr (.inr ⟨i,l,o,k2,h3,h4⟩)⟩
theorem sC{n:Nat} : ∀{l:List Nat},rP n l=false->n ∉ l
 | [],_,h=>by cases h
 | m::r,h,hm=>by simp only[rP] at h;split at h;cases h;rename_i hb;rcases Xq.1 hm with rfl|hm;rw[Xv] at hb;cases hb;exact sC h hm
mutual
theorem uW(hM:ρ.k M N=none):∀(x:SV) (v:Value),m1 ∉ dU x->den ρ x v->den (ρ.bP M N m1 q) x v
 | .v _,_,_,hd=>hd
 | .il _ _,_,_,hd=>hd
 | .bl _,_,_,hd=>hd
 | .e,_,_,hd=>hd
 | .rs _ _ _,_,_,hd=>hd
 | .rp _ _,_,_,hd=>hd
 | .p n off,v,hn,⟨b,e1,e2⟩=>⟨b,kR (by simpa[dU,eq_comm] using hn) e1,e2⟩
 | .s n sz off len cap,v,hn,⟨b,e1,e2⟩=>⟨b,kR (by simpa[dU,eq_comm] using hn) e1,e2⟩
 | .m n,v,hn,⟨b,e1,e2⟩=>⟨b,kR (by simpa[dU,eq_comm] using hn) e1,e2⟩
 | .g m e sz off n,v,hn,⟨l,e1,e2,e3⟩=>⟨l,kQ (by rw[e2];simpa[dU,eq_comm] using hn) e1,e2,e3⟩
 | .gp m e sz i off,v,hn,⟨l,b,e1,e2,e3⟩=>⟨l,b,kQ (by rw[e2];simpa[dU,eq_comm] using hn) e1,e2,e3⟩
 | .kd m i sz off n,v,hn,⟨l,e1,e3⟩=>⟨l,(mW (by simpa[dU,eq_comm] using hn) (by rintro⟨rfl,rfl⟩;rw[hM] at e1;cases e1)).trans e1,e3⟩
 | .kq m i sz j off,v,hn,⟨l,b,e1,e3⟩=>⟨l,b,(mW (by simpa[dU,eq_comm] using hn) (by rintro⟨rfl,rfl⟩;rw[hM] at e1;cases e1)).trans e1,e3⟩
 | .f fn x y,v,hn,⟨u,w,h1,h2,h3⟩=>⟨u,w,fE hM x u (λh=>hn (List.mem_append_left _ h)) h1,fE hM y w (λh=>hn (List.mem_append_right _ h)) h2,h3⟩
 | .agg l,v,hn,⟨u,h1,h2⟩=>⟨u,fE hM l u hn h1,h2⟩
 | .tup l,v,hn,⟨u,h1,h2⟩=>⟨u,fE hM l u hn h1,h2⟩
theorem fE(hM:ρ.k M N=none):∀(x:List SV) (v:List Value),m1 ∉ gH x->au ρ x v->au (ρ.bP M N m1 q) x v
 | [],_,_,hd=>hd
 | x::r,v,hn,⟨u,w,h1,h2,h3⟩=>⟨u,w,h1,uW hM x u (λh=>hn (List.mem_append_left _ h)) h2,fE hM r w (λh=>hn (List.mem_append_right _ h)) h3⟩
end
theorem mO{m t:Nat} : ∀{l:List (Nat×Slot)},look (qC m l) t=(look l t).map λs=>match rP m (dU s.v) with|true=>⟨s.rg,s.k,[(0,true)],.e⟩|false=>s
 | []=>rfl
 | (u,s)::r=>by simp only[qC];by_cases he:u=t;subst he;split<;>rename_i hb<;>rw[ai,ai]<;>simp only[Option.map_some,hb];split<;>rw[ah _ _ he,ah _ _ he]<;>exact mO
theorem uS{m t:Nat} : ∀{l:aU},look (w8 m l) t=(look l t).map (uR m)
 | []=>rfl
 | (u,s)::r=>by by_cases he:u=t;subst he;simp only[w8,ai];rfl;simp only[w8,ah _ _ he];exact uS
theorem Bj(hM:ρ.k M N=none){W:World}(hn:n≠m1)(hnM:n≠M)(hc:cS ρ W n sb):cS (ρ.bP M N m1 q) W n (uR m1 sb):=by
 have hk:∀i,(ρ.bP M N m1 q).k n i=ρ.k n i:=λi=>mW hn λh=>hnM h.1;cases sb with
 | gone=>trivial
 | lay cs t=>
  simp only[uR];split;trivial;rename_i hb;obtain⟨b,vs,h1,h2,h3,h4,h5⟩:=hc;exact⟨b,vs,kR hn h1,fE hM _ _ (sC hb) h2,h3,h4,h5⟩
 | lst e sz N f t=>
  obtain⟨l,h1,h2,h3,h4,h5⟩:=hc;exact⟨l,kQ (by rw[h2];exact hn) h1,h2,h3,h4,h5⟩
 | mp k ag has g=>
  obtain⟨b,es,cl,h1,h2,h3,h4⟩:=hc;exact⟨b,es,cl,kR hn h1,h2,h3,h4.keys,h4.yes⟩
 | nst e sz N' f p Yf g tk t last=>
  have key:∀last':Option (List SV),(∀cs,last'=some cs->m1 ∉ gH cs)->last'=last->cS (ρ.bP M N m1 q) W n (.nst e sz N' f p Yf g tk t last'):=(by intro last' hl e';subst e';obtain⟨l,K⟩:=hc;refine⟨l,kQ (by rw[K.ho];exact hn) K.hv,K.ho,K.hN,K.hle,λYm=>?_,λi hi=>?_,λi hi=>(hk i).trans (K.no i hi),λi j q r b h1 h2=>K.ne i j q r b ((hk i).symm.trans h1) ((hk j).symm.trans h2)⟩;obtain⟨b,u,k1,k2,k3,k4,k5,k6,k7,k8⟩:=K.row Ym;exact⟨b,u,k1,k2,k3,k4,k5,λi hi=>let ⟨q,us,q1,q2⟩:=k6 i hi;⟨q,us,(hk i).trans q1,q2⟩,λcs Z5=>let ⟨us,q1,q2⟩:=k7 cs Z5;⟨us,fE hM _ _ (hl cs Z5) q1,q2⟩,λi q b' h1=>k8 i q b' ((hk i).symm.trans h1)⟩;obtain⟨q,q1,q2⟩:=K.kid i hi;exact⟨q,(hk i).trans q1,q2⟩);simp only[uR];split;exact key none (λcs h=>by cases h) rfl;split;trivial;rename_i cs _ hb;exact key (some cs) (λcs' h=>by obtain rfl:=Oi h;exact sC hb) rfl
theorem zK{x:SV}{z:Value} : ∀{l:List SV} {p:Nat} {us:List Value},l[p]? = some x->us[p]? = some z->dB (l.set p .e)=true->au ρ l us->au ρ.zo (l.set p (.v z)) us
 | [],p,us,h,_,_,_=>by cases h
 | y::r,0,us,h,hu,hp,hd=>by obtain⟨a,b,rfl,h1,h2⟩:=aF hd;simp only[List.set_cons_zero,dB,mu] at hp;obtain rfl:a=z:=(by simpa using hu);exact⟨a,b,rfl,rfl,cJ _ _ hp h2⟩
 | y::r,p+1,us,h,hu,hp,hd=>by obtain⟨a,b,rfl,h1,h2⟩:=aF hd;simp only[List.set_cons_succ,dB] at hp;split at hp;rename_i hy;exact⟨a,b,rfl,mr _ _ hy h1,zK (x:=x) (by simpa using h) (by simpa using hu) hp h2⟩;cases hp
theorem su{x:α}{f:Nat->α} : CI N x f N=x:=by simp only[CI,Xv]
theorem ss{x:α}{f:Nat->α}(h:i≠N):CI N x f i=f i:=by unfold CI;split;rename_i hb;exact P' (Nb hb) h;rfl
end
theorem H7{m1 rg:Nat}{H:aU}{sl:List (Nat×Slot)}{rd ws:List (Nat×Nat)}{W:World}(X5:∀n b,XN.n n=some b->n<nm0)(XP:∀e l,XN.v e=some l->e<nm0∧l.o<nm0)(XQ:∀m i l,XN.k m i=some l->m<nm0)(h:Rp C nt w0 XN ⟨sl,H,nm,rg,rd,ws⟩ ρ a W)(Y9:yT nm0 M H=some (m1,sb)):∃XM,Rp C nt w0 XN ⟨qC m1 sl,(M,sb)::(m1,.gone)::w8 m1 H,nm,rg,rd,ws⟩ XM a W:=by
 unfold yT at Y9;split at Y9
 rotate_left
 cases Y9;rename_i e sz N hh p Yf g tk t cs hlM;split at Y9
 rotate_left
 cases Y9;rename_i mm e1 szk1 n1 hcp hpu;split at Y9
 rotate_left
 cases Y9;rename_i e1' szk1' N1 h1 t1 hl1;split at Y9
 rotate_left
 cases Y9;rename_i b1 b2 b3 b4 b5;have b1:=Nb b1;have b2:=Nb b2;have b3:=Nb b3;have b4:=Nb b4;have b5:=F4 b5;obtain⟨rfl,rfl⟩:=F7 (Oi Y9);subst b1 b2 b3 b4;have hm:=h.base.mem;have hMm:M≠mm:=by rintro rfl;rw[hlM] at hl1;cases hl1
 obtain⟨lM,K⟩:=h.base.blk M _ hlM;obtain⟨l1,q1,q2,q3,q4,q5⟩:=h.base.blk mm _ hl1;have Ym:lM.cap≠0:=by have h1:=K.hN;have h2:=K.hle;have h3:lM.N=N+1:=h1;omega
 obtain⟨b,u,k1,k2,k3,k4,k5,k6,k7,k8⟩:=K.row Ym;obtain⟨us,r1,r2,r3⟩:=k7 cs rfl;obtain⟨z,hz,hdz⟩:=eu r1 hcp;obtain⟨l1',s1,s2,s3,s4,a',Y4,s6⟩:=hdz;rw[q1] at s1;obtain rfl:=Oi s1;simp only[Nat.sub_zero,B',Nat.zero_mul] at s3 Y4 s6;have hMN:ρ.k M N=none:=K.no N (F2 _);obtain⟨q,hq⟩:∃q:LV,q=⟨M,a',l1.cap,n1⟩:=⟨_,rfl⟩
 have hqa:q.a=a':=by rw[hq]
 have hqc:q.cap=l1.cap:=by rw[hq]
 have hqN:q.N=n1:=by rw[hq]
 have hqo:∀b2 o,q.cap≠0->q.a=some ⟨b2,o,none⟩->bM ρ mm b2:=λb2 o h1 h2=>by rw[hqc] at h1;obtain⟨b3,t1,t2⟩:=s6 h1;rw[hqa,t2] at h2;injection h2 with h2;injection h2 with h2;subst h2;exact .inr (.inl ⟨e1,l1,0,q1,q2,h1,t1⟩)
 have hMown:bM ρ M b:=.inr (.inl ⟨e,lM,0,K.hv,K.ho,Ym,k1⟩);have hMo:lM.o≠mm:=by rw[K.ho];exact hMm
 have hkM:∀i,i≠N->(ρ.bP M N mm q).k M i=ρ.k M i:=λi hi=>mW hMm λh=>hi h.2;have hMlt:M<nm:=by rw[<-K.ho];exact(hm.domv _ _ K.hv).2
 refine⟨ρ.bP M N mm q,⟨⟨⟨λn n' b2 o1 o2=>?_,λn b2 o1=>?_,hm.hb.zok,hm.hb.grd⟩,λn b2 hn=>hm.dom n b2 (nZ hn).2,λe2 l2 hl=>hm.domv e2 l2 (nY hl).2,λm i l hl=>?_,⟨λn b2 hn=>?_,λe2 l2 hl=>?_,λm i l hl=>?_,hm.le.z⟩,λn b2 o1=>?_,hm.zold,hm.keep⟩,λn sb hn=>?_,h.base.sz,h.base.df⟩,λu s hs=>?_,λu s hs hg=>?_⟩
 ·rcases jV o1 with ⟨n1,w1⟩|⟨w1,c1,o,a1⟩<;>rcases jV o2 with ⟨n2,w2⟩|⟨w2,c2,o',a2⟩
  exact hm.hb.own n n' b2 w1 w2;exact P' (hm.hb.own _ _ b2 w1 (hqo b2 o' c2 a2)) n1;exact P' (hm.hb.own _ _ b2 w2 (hqo b2 o c1 a1)) n2;rw[w1,w2]
 ·rcases jV o1 with ⟨n1,o1⟩|⟨rfl,c1,o,a1⟩
  exact hm.hb.low n b2 o1;exact hm.hb.low _ b2 (hqo b2 o c1 a1)
 ·rcases fS hl with ⟨rfl,-,-⟩|⟨-,hl⟩
  exact hMlt;exact hm.domk m i l hl
 have:=X5 n b2 hn;exact kR (by omega) (hm.le.n n b2 hn);have:=(XP e2 l2 hl).2;exact kQ (by omega) (hm.le.v e2 l2 hl);have:=XQ m i l hl;have h2:=hm.le.k m i l hl;rw[mW (by omega) (by rintro⟨rfl,rfl⟩;rw[hMN] at h2;cases h2)];exact h2
 ·rcases jV o1 with ⟨n1,o1⟩|⟨rfl,c1,o,a1⟩
  exact hm.old n b2 o1;exact hm.old mm b2 (hqo b2 o c1 a1)
 ·by_cases eM:M=n
  ·subst eM;simp only[ai] at hn;obtain rfl:=Oi hn;refine⟨lM,kQ hMo K.hv,K.ho,K.hN,K.hle,λ_=>⟨b,u,k1,k2,k3,k4,k5,λi hi=>?_,(λcs h=>by cases h),λi q' b' hi h1 h2=>?_⟩,λi hi=>?_,λi hi=>?_,λi j q' r b2 hi hj c1 c2 a1 a2=>?_⟩;by_cases hiN:i=N;subst hiN;refine⟨q,us,vp,?_,r2,r3⟩;rw[su];refine zK (ρ:=ρ) hcp ?_ hpu r1;rw[hz,Y4,hqa,hqN,hqc];obtain⟨q',us',t1,t2,t3⟩:=k6 i (by omega);exact⟨q',us',(hkM i hiN).trans t1,by rw[ss hiN];exact t2,t3⟩
   ·rcases fS hi with ⟨-,-,rfl⟩|⟨-,hi⟩
    rintro rfl;exact hMm (hm.hb.own _ _ b' hMown (hqo b' 0 h1 h2));exact k8 i q' b' hi h1 h2
   by_cases hiN:i=N;subst hiN;refine⟨q,vp,by rw[su];exact hqN,by omega,λhc=>?_⟩;obtain⟨b2,u2,t1,t2,t3,t4,t5,t6⟩:=q5 (by omega);obtain⟨b3,v1,v2⟩:=s6 (by omega);rw[t1] at v1;obtain rfl:b2=b3:=(by injection v1 with v1;injection v1);rw[su];exact⟨b2,u2,by rw[hqa];exact v2,t2,by rw[hqc];exact t3,t4,t5,λj hj=>t6 j (by omega)⟩;obtain⟨q',t1,t2,t3⟩:=K.kid i (by omega);exact⟨q',(hkM i hiN).trans t1,by rw[ss hiN];exact t2,by rw[ss hiN];exact t3⟩;rw[hkM i (by omega)];exact K.no i (by omega);rcases fS hi with ⟨-,e1,w1⟩|⟨-,w1⟩<;>rcases fS hj with ⟨-,e2,w2⟩|⟨-,w2⟩
   rw[e1,e2];rw[w1] at c1 a1;exact P' (hm.hb.own _ _ b2 (.inr (.inr ⟨j,r,0,w2,c2,a2⟩)) (hqo b2 0 c1 a1)) hMm;rw[w2] at c2 a2;exact P' (hm.hb.own _ _ b2 (.inr (.inr ⟨i,q',0,w1,c1,a1⟩)) (hqo b2 0 c2 a2)) hMm;exact K.ne i j q' r b2 w1 w2 c1 c2 a1 a2
  simp only[ah _ _ eM] at hn;by_cases em:mm=n;subst em;simp only[ai] at hn;obtain rfl:=Oi hn;trivial;simp only[ah _ _ em,uS] at hn;cases hl:look H n with
  | none=>rw[hl] at hn;cases hn
  | some sb0=>
   rw[hl] at hn;obtain rfl:=Oi hn;exact Bj hMN (λe=>em e.symm) (λe=>eM e.symm) (h.base.blk n sb0 hl)
 ·rw[mO] at hs;cases ZS:look sl u with
  | none=>rw[ZS] at hs;cases hs
  | some s0=>
   rw[ZS] at hs;simp only[Option.map_some] at hs;have h0:=h.rgs u s0 ZS;split at hs;obtain rfl:=Oi hs;exact h0;obtain rfl:=Oi hs;exact h0
 rw[mO] at hs;cases ZS:look sl u with
 | none=>rw[ZS] at hs;cases hs
 | some s0=>
  rw[ZS] at hs;simp only[Option.map_some] at hs;split at hs;obtain rfl:=Oi hs;cases hg;rename_i hb;obtain rfl:=Oi hs;obtain⟨x,t1,t2⟩:=h.cw u s0 ZS hg;exact⟨x,uW hMN _ _ (sC hb) t1,t2⟩
theorem RZ{t:Tr}{W:World}(X5:∀n b,XN.n n=some b->n<nm0)(XP:∀e l,XN.v e=some l->e<nm0∧l.o<nm0)(XQ:∀m i l,XN.k m i=some l->m<nm0)(h:Rp C nt w0 XN st ρ a W):∃XM,Rp C nt w0 XN (tr1 nm0 t st) XM a W:=by
 obtain⟨sl,H,nm,rg,rd,ws⟩:=st;have hfree:=h.base.mem.free;have hbirth:∀(ad:Option Addr) (sz:Nat) (ty:TypeId),∃XM,ρ.le XM∧(∀y,y=Value.slice ad 0 0->den XM (.g nm nm sz 0 0) y)∧Base C nt w0 XN ((nm,.lst nm sz 0 (λ_=>[]) ty)::H) (nm+1) XM a W:=by
  intro ad sz ty;have e:=eR (l:=⟨nm,ad,0,0⟩) h.base.mem.hb hfree.2 (Gr.refl W) (λh=>P' rfl h);refine⟨ρ.fZ nm ⟨nm,ad,0,0⟩,Names.iW hfree.2,λy hy=>⟨_,Names.aQ,rfl,F2 _,F2 _,ad,hy,λh=>P' rfl h⟩,?_⟩;have:=h.base.done (w:=some (nm,.lst nm sz 0 (λ_=>[]) ty)) (fr:=true) (dst:=none) (x:=undef) (XM:=ρ.fZ nm ⟨nm,ad,0,0⟩) (W':=W) e (λn sb hn=>by
   obtain⟨rfl,rfl⟩:=F7 (Oi hn);exact⟨_,Names.aQ,rfl,rfl,F2 _,λh=>P' rfl h⟩) (λn sb hn=>by
   obtain⟨rfl,rfl⟩:=F7 (Oi hn);exact Nat.lt_succ_self _)
  exact this
 have hbirth2:∀(ad:Option Addr) (sz:Nat) (ty:TypeId),∃XM,ρ.le XM∧(∀y,y=Value.slice ad 0 0->den XM (.g nm (nm+1) sz 0 0) y)∧Base C nt w0 XN ((nm,.lst (nm+1) sz 0 (λ_=>[]) ty)::H) (nm+2) XM a W:=by
  intro ad sz ty;have YB:Base C nt w0 XN H (nm+1) ρ a W:=⟨h.base.mem.up (Nat.le_succ _),h.base.blk,h.base.sz,h.base.df⟩
  have hfree1:=YB.mem.free;have e:=eR (nm:=nm+1) (l:=⟨nm,ad,0,0⟩) YB.mem.hb hfree1.2 (Gr.refl W) (λh=>P' rfl h);refine⟨ρ.fZ (nm+1) ⟨nm,ad,0,0⟩,Names.iW hfree1.2,λy hy=>⟨_,Names.aQ,rfl,F2 _,F2 _,ad,hy,λh=>P' rfl h⟩,?_⟩;have:=YB.done (w:=some (nm,.lst (nm+1) sz 0 (λ_=>[]) ty)) (fr:=true) (dst:=none) (x:=undef) (XM:=ρ.fZ (nm+1) ⟨nm,ad,0,0⟩) (W':=W) e (λn sb hn=>by
   obtain⟨rfl,rfl⟩:=F7 (Oi hn);exact⟨_,Names.aQ,rfl,rfl,F2 _,λh=>P' rfl h⟩) (λn sb hn=>by
   obtain⟨rfl,rfl⟩:=F7 (Oi hn);show nm<nm+2;omega)
  exact this
 have hbirthN:∀(ad:Option Addr) (sz p Yf:Nat) (tk ty:TypeId),∃XM,ρ.le XM∧(∀y,y=Value.slice ad 0 0->den XM (.g nm (nm+1) sz 0 0) y)∧Base C nt w0 XN ((nm,.nst (nm+1) sz 0 (λ_=>[]) p Yf (λ_=>(0,λ_=>[])) tk ty none)::H) (nm+2) XM a W:=by
  intro ad sz p Yf tk ty;have YB:Base C nt w0 XN H (nm+1) ρ a W:=⟨h.base.mem.up (Nat.le_succ _),h.base.blk,h.base.sz,h.base.df⟩
  have hfree1:=YB.mem.free;have hk0:∀i,ρ.k nm i=none:=λi=>by
   cases hk:ρ.k nm i with
   | none=>rfl
   | some l=>
    have:nm<nm:=h.base.mem.domk nm i l hk;omega
  have e:=eR (nm:=nm+1) (l:=⟨nm,ad,0,0⟩) YB.mem.hb hfree1.2 (Gr.refl W) (λh=>P' rfl h);refine⟨ρ.fZ (nm+1) ⟨nm,ad,0,0⟩,Names.iW hfree1.2,λy hy=>⟨_,Names.aQ,rfl,F2 _,F2 _,ad,hy,λh=>P' rfl h⟩,?_⟩;have:=YB.done (w:=some (nm,.nst (nm+1) sz 0 (λ_=>[]) p Yf (λ_=>(0,λ_=>[])) tk ty none)) (fr:=true) (dst:=none) (x:=undef) (XM:=ρ.fZ (nm+1) ⟨nm,ad,0,0⟩) (W':=W) e (λn sb hn=>by
   obtain⟨rfl,rfl⟩:=F7 (Oi hn);exact⟨_,Names.aQ,rfl,rfl,F2 _,λh=>P' rfl h,λi hi=>P' hi (F1 i),λi _=>hk0 i,λi j q r b h1=>by have h1:ρ.k nm i=some q:=h1;rw[hk0 i] at h1;cases h1⟩) (λn sb hn=>by
   obtain⟨rfl,rfl⟩:=F7 (Oi hn);show nm<nm+2;omega)
  exact this
 cases t with
 | freeze m=>
  simp only[tr1];split
  ·rename_i sb0 hl;split
   rotate_left
   exact⟨ρ,h⟩;rename_i hp;have hH:=h.base.X';have hm:=h.base.mem;refine⟨ρ.kP (G0 ρ W m),⟨⟨⟨hm.hb.own,hm.hb.low,λb i c hz=>?_,hm.hb.grd⟩,hm.dom,hm.domv,hm.domk,hm.le.trans Names.bz,hm.old,λb i c hz=>?_,hm.keep⟩,λn sb hn=>?_,h.base.sz,h.base.df⟩,λu s hs=>?_,λu s hs hg=>?_⟩;rcases hz with hz|hz;exact hm.hb.zok b i c hz;exact hz.2;rcases hz with hz|hz;exact hm.zold b i c hz;rcases hm.old m b hz.1 with h1|h1;exact .inr (.inr h1);exact .inr (.inl h1)
   ·by_cases e0:m=n;subst e0;simp only[ai] at hn;obtain rfl:=Oi hn;trivial;simp only[ah _ _ e0,wT] at hn;cases hln:look H n with
    | none=>rw[hln] at hn;cases hn
    | some sb0=>
     rw[hln] at hn;obtain rfl:=Oi hn;have hc:=h.base.blk n sb0 hln;cases sb0 with
     | gone=>trivial
     | mp k ag has g=>
      obtain⟨b,es,cl,h1,h2,h3,h4⟩:=hc;exact⟨b,es,cl,h1,h2,h3,λx hx=>let ⟨m,q1,q2,u,q3,q4⟩:=h4.keys x hx;⟨m,q1,q2,u,aK (Names.le.zo Names.bz) _ _ q3,q4⟩,h4.yes⟩
     | lay cs t=>
      obtain⟨b,vs,h1,h2,h3,h4,h5⟩:=hc;exact⟨b,vs,h1,nf hH hl hp cs vs h2,h3,h4,λi c hz=>by
       rcases hz with hz|hz;exact h5 i c hz
       ·exact e0 (hm.hb.own m n b hz.1 (.inl h1))⟩
     | lst e' Yb N' f' t'=>
      obtain⟨l,h1,h2,h3,h4,h5⟩:=hc;refine⟨l,h1,h2,h3,h4,λYm=>?_⟩;obtain⟨b,u,k1,k2,k3,k4,k5,k6⟩:=h5 Ym;exact⟨b,u,k1,k2,k3,k4,λi c hz=>by
       rcases hz with hz|hz;exact k5 i c hz
       ·exact e0 (hm.hb.own m n b hz.1 (.inr (.inl ⟨e',l,0,h1,h2,Ym,k1⟩))),λi hi=>let ⟨us,q1,q2⟩:=k6 i hi;⟨us,aK (Names.le.zo Names.bz) _ _ q1,q2⟩⟩
     | nst e' Yb N' f' p' szk' g' tk' t' last'=>exact nW hc λb i c ho hz=>e0 (hm.hb.own m n b hz.1 ho)
   ·rw[oI] at hs;cases ZS:look sl u with
    | none=>rw[ZS] at hs;cases hs
    | some s0=>
     rw[ZS] at hs;obtain rfl:=Oi hs;exact h.rgs u s0 ZS
   rw[oI] at hs;cases ZS:look sl u with
   | none=>rw[ZS] at hs;cases hs
   | some s0=>
    rw[ZS] at hs;obtain rfl:=Oi hs;obtain⟨x,q1,q2⟩:=h.cw u s0 ZS hg;exact⟨x,Ff hH hl hp _ _ q1,q2⟩
  exact⟨ρ,h⟩
 | slot2 t sz ty=>
  simp only[tr1];split;rename_i r k v hl;split;rename_i he hr;have hr:=F4 hr;obtain⟨y,h1,h2⟩:=h.cw t _ hl rfl;obtain⟨ad,rfl⟩:=qA he h1;obtain⟨XM,k1,k2,k3⟩:=hbirth2 ad sz ty;refine⟨XM,k3,λu s hs=>?_,λu s hs hg=>?_⟩;by_cases e:t=u;subst e;simp only[ai] at hs;obtain rfl:=Oi hs;exact hr;simp only[ah _ _ e] at hs;exact h.rgs u s hs;by_cases e:t=u;subst e;simp only[ai] at hs;obtain rfl:=Oi hs;exact⟨_,k2 _ rfl,h2⟩;simp only[ah _ _ e] at hs;obtain⟨x,q1,q2⟩:=h.cw u s hs hg;exact⟨x,bE k1 _ _ q1,q2⟩;exact⟨ρ,h⟩;exact⟨ρ,h⟩
 | cell2 n i sz ty=>
  simp only[tr1];split;rename_i cs t hl;split;rename_i v hv;split;rename_i he;obtain⟨b,vs,h1,h2,h3,h4,h5⟩:=h.base.blk n _ hl;obtain⟨y,hy,hdy⟩:=eu h2 hv;obtain⟨ad,rfl⟩:=qA he hdy;obtain⟨XM,k1,k2,k3⟩:=hbirth2 ad sz ty;refine⟨XM,⟨k3.mem,λm sb hm=>?_,k3.sz,k3.df⟩,h.rgs,λu s hs hg=>let ⟨x,q1,q2⟩:=h.cw u s hs hg;⟨x,bE k1 _ _ q1,q2⟩⟩;by_cases e:n=m;subst e;simp only[ai] at hm;obtain rfl:=Oi hm;have hk:=k3.blk n (.lay cs t) (by have XW:nm≠n:=(by rintro rfl;have:nm<nm:=h.base.mem.dom _ b h1;omega);rw[ah _ _ XW];exact hl);obtain⟨b',vs',q1,q2,q3,q4,q5⟩:=hk;have hbb:b'=b:=(by have:=k1.n n b h1;rw[q1] at this;exact Oi this);subst hbb;have hvs:vs'=vs:=(by have e1:W.heap[b']? = some (.cells vs'.toArray t (0,0)):=q3;have e2:W.heap[b']? = some (.cells vs.toArray t (0,0)):=h3;rw[e1] at e2;injection e2 with e2;injection e2 with e2;simpa using O' Array.toList e2);subst hvs;refine⟨b',vs',q1,?_,q3,q4,q5⟩;have:=uX (i:=i) q2 (k2 _ rfl);rw[zy hy] at this;exact this;simp only[ah _ _ e] at hm;exact k3.blk m sb hm;exact⟨ρ,h⟩;exact⟨ρ,h⟩;exact⟨ρ,h⟩
 | cellN n i sz p Yf tk ty=>
  simp only[tr1];split;rename_i cs t hl;split;rename_i v hv;split;rename_i he;obtain⟨b,vs,h1,h2,h3,h4,h5⟩:=h.base.blk n _ hl;obtain⟨y,hy,hdy⟩:=eu h2 hv;obtain⟨ad,rfl⟩:=qA he hdy;obtain⟨XM,k1,k2,k3⟩:=hbirthN ad sz p Yf tk ty;refine⟨XM,⟨k3.mem,λm sb hm=>?_,k3.sz,k3.df⟩,h.rgs,λu s hs hg=>let ⟨x,q1,q2⟩:=h.cw u s hs hg;⟨x,bE k1 _ _ q1,q2⟩⟩;by_cases e:n=m;subst e;simp only[ai] at hm;obtain rfl:=Oi hm;have hk:=k3.blk n (.lay cs t) (by have XW:nm≠n:=(by rintro rfl;have:nm<nm:=h.base.mem.dom _ b h1;omega);rw[ah _ _ XW];exact hl);obtain⟨b',vs',q1,q2,q3,q4,q5⟩:=hk;have hbb:b'=b:=(by have:=k1.n n b h1;rw[q1] at this;exact Oi this);subst hbb;have hvs:vs'=vs:=(by have e1:W.heap[b']? = some (.cells vs'.toArray t (0,0)):=q3;have e2:W.heap[b']? = some (.cells vs.toArray t (0,0)):=h3;rw[e1] at e2;injection e2 with e2;injection e2 with e2;simpa using O' Array.toList e2);subst hvs;refine⟨b',vs',q1,?_,q3,q4,q5⟩;have:=uX (i:=i) q2 (k2 _ rfl);rw[zy hy] at this;exact this;simp only[ah _ _ e] at hm;exact k3.blk m sb hm;exact⟨ρ,h⟩;exact⟨ρ,h⟩;exact⟨ρ,h⟩
 | bP M=>
  simp only[tr1];split;rename_i m1 sb Y9;exact H7 X5 XP XQ h Y9;exact⟨ρ,h⟩
theorem xv{nm0:Nat}{a:Act}{W:World}(X5:∀n b,XN.n n=some b->n<nm0)(XP:∀e l,XN.v e=some l->e<nm0∧l.o<nm0)(XQ:∀m i l,XN.k m i=some l->m<nm0):∀{t:List Tr} {st:St} {ρ:Names},Rp C nt w0 XN st ρ a W->∃XM,Rp C nt w0 XN (trs nm0 t st) XM a W
 | [],st,ρ,h=>⟨ρ,h⟩
 | t::r,st,ρ,h=>by obtain⟨XM,h'⟩:=RZ (t:=t) X5 XP XQ h;exact xv X5 XP XQ (t:=r) (st:=tr1 nm0 t st) h'
theorem Cut.at_.rp{c:Cut}{nm0:Nat}{st:St}{Q:c.α->Prop}{ρ:Names}{a:Act}{W:World}(X5:∀n b,XN.n n=some b->n<nm0)(XP:∀e l,XN.v e=some l->e<nm0∧l.o<nm0)(XQ:∀m i l,XN.k m i=some l->m<nm0)(h:c.at_ nm0 st Q)(hr:Rp C nt w0 XN st ρ a W):∃b XM,Q b∧c.P b∧Rp C nt w0 XN (c.J b) XM a W:=by obtain⟨b,σ,t,hq,hp,hle⟩:=h;obtain⟨XM,YJ⟩:=xv (t:=t) X5 XP XQ hr;exact⟨b,_,hq,hp,hle.rp X5 XP XQ YJ⟩
theorem Eo{x y:Code}{K:Ex->St->Prop}{Mid:St->Prop}(hx:MZ C nt w0 XN x st (zh K Mid))(hy:∀X4 ρ a W,Mid X4->Rp C nt w0 XN X4 ρ a W->wpR C.P C.co y (λe a' W'=>∃x X4 XM,e=Ex.to x∧K x X4∧Rp C nt w0 XN X4 XM a' W') a W):MZ C nt w0 XN (.seq x y) st K:=by
 intro ρ a W hr;refine jK (eN (hx ρ a W hr) ?_);rintro e a' W' ⟨x',X4,XM,rfl,hk,YJ⟩;cases x' with
 | normal=>exact hy X4 XM a' W' hk YJ
 | exit i=>exact⟨.exit i,X4,XM,rfl,hk,YJ⟩
 | ret=>exact⟨.ret,X4,XM,rfl,hk,YJ⟩
theorem NV{x:Code}{f:St->(Ex->St->Prop)->Prop}{K:Ex->St->Prop}(hf:∀st K,f st K->MZ C nt w0 XN x st K)(h:unr f n st K):MZ C nt w0 XN (.loop x) st K:=by
 intro ρ a W hr;refine sV (λn a W=>∃st ρ,Rp C nt w0 XN st ρ a W∧unr f n st K) n ⟨st,ρ,hr,h⟩ ?_;rintro n a W ⟨st,ρ,hr,h⟩;cases n with
 | zero=>exact h.elim
 | succ n=>
  refine eN (hf st _ h ρ a W hr) ?_;rintro e a' W' ⟨x',X4,XM,rfl,hk,YJ⟩;cases x' with
  | normal=>exact⟨n,Nat.lt_succ_self n,X4,XM,YJ,hk⟩
  | exit i=>exact⟨.exit i,X4,XM,rfl,hk,YJ⟩
  | ret=>exact⟨.ret,X4,XM,rfl,hk,YJ⟩
theorem dQ{nm0:Nat}{h:How}(hI:eT C I)(hm:C.P.follows .mixedOrders=true)(X5:∀n b,XN.n n=some b->n<nm0)(XP:∀e l,XN.v e=some l->e<nm0∧l.o<nm0)(XQ:∀m i l,XN.k m i=some l->m<nm0) :
  ∀(c:Code) (st:St) (K:Ex->St->Prop),dL h.fl c=true->ev Γ nt nm0 I inls h c st K->MZ C nt w0 XN c st K
 | .skip,st,K,hB,he=>λρ a W hr=>sU ⟨.normal,st,ρ,rfl,he,hr⟩
 | .region id ops draw,st,K,hB,he=>λρ a W hr=>AX hI hm (Bool.and_eq_true_iff.1 hB).1 hr he λX4 XM a' W' hk YJ=>⟨.normal,X4,XM,rfl,hk,YJ⟩
 | .seq x y,st,K,hB,he=>by have hB:=Bool.and_eq_true_iff.1 hB;simp only[ev] at he;split at he;exact Eo (dQ hI hm X5 XP XQ x st _ hB.1 he) λX4 ρ a W hk hr=>dQ hI hm X5 XP XQ y X4 K hB.2 hk ρ a W hr;obtain⟨c,he⟩:=he;refine Eo (dQ hI hm X5 XP XQ x st _ hB.1 he.1) λX4 ρ a W hk hr=>?_;obtain⟨b,XM,-,hp,YJ⟩:=hk.rp X5 XP XQ hr;exact dQ hI hm X5 XP XQ y (c.J b) K hB.2 (he.2 b hp) _ a W YJ
 | .cond c x y,st,K,hB,he=>λρ a W hr=>by have hB:=Bool.and_eq_true_iff.1 hB;simp only[ev] at he;split at he;rename_i hc;split at he;exact jY (gF hr hc) (dQ hI hm X5 XP XQ x st K hB.1 he ρ a W hr);obtain⟨c',he,he2⟩:=he;obtain⟨b',XM,-,hp,YJ⟩:=he.rp X5 XP XQ hr;exact jY (gF hr hc) (dQ hI hm X5 XP XQ x (c'.J b') K hB.1 (he2 b' hp) _ a W YJ);rename_i hc;exact jl (gF hr hc) (dQ hI hm X5 XP XQ y st K hB.2 he ρ a W hr);rename_i b hc;split at he;exact l9 (gF hr hc) (λhb=>dQ hI hm X5 XP XQ x st K hB.1 (he.1 hb) ρ a W hr) (λhb=>dQ hI hm X5 XP XQ y st K hB.2 (he.2 hb) ρ a W hr);refine l9 (gF hr hc) (λhb=>?_) (λhb=>dQ hI hm X5 XP XQ y st K hB.2 (he.2 hb) ρ a W hr);obtain⟨c',hf,he2⟩:=he.1 hb;obtain⟨b',XM,-,hp,YJ⟩:=hf.rp X5 XP XQ hr;exact dQ hI hm X5 XP XQ x (c'.J b') K hB.1 (he2 b' hp) _ a W YJ;cases he
 | .block id x,st,K,hB,he=>λρ a W hr=>by
  refine pM (eN (dQ hI hm X5 XP XQ x st _ hB he ρ a W hr) ?_);rintro e a' W' ⟨x',X4,XM,rfl,hk,YJ⟩;cases x' with
  | normal=>exact⟨.normal,X4,XM,rfl,hk,YJ⟩
  | ret=>exact⟨.ret,X4,XM,rfl,hk,YJ⟩
  | exit i=>
   show if i=id then _ else _;simp only at hk;split at hk;rename_i hb;rw[Xl (Nb hb)];exact⟨.normal,X4,XM,rfl,hk,YJ⟩;rename_i hb;rw[Xk (λe=>by rw[e,Xv] at hb;cases hb)];exact⟨.exit i,X4,XM,rfl,hk,YJ⟩
 | .loop x,st,K,hB,he=>by
  simp only[ev] at he;split at he;exact NV (λst K hh=>dQ hI hm X5 XP XQ x st K hB hh) he;obtain⟨c,hc0,hround⟩:=he;intro ρ a W hr;obtain⟨b0,YA,-,hp0,hr0⟩:=hc0.rp X5 XP XQ hr;refine sV (λn a W=>∃b ρ,c.μ b=n∧c.P b∧Rp C nt w0 XN (c.J b) ρ a W) _ ⟨b0,YA,rfl,hp0,hr0⟩ ?_;rintro n a W ⟨b,ρ,rfl,hp,hr⟩;refine eN (dQ hI hm X5 XP XQ x (c.J b) _ hB (hround b hp) ρ a W hr) ?_;rintro e a' W' ⟨x',X4,XM,rfl,hk,YJ⟩;cases x' with
  | normal=>
   obtain⟨b',ρ'',X0,hp',hr''⟩:=Cut.at_.rp X5 XP XQ hk YJ;exact⟨_,X0,b',_,rfl,hp',hr''⟩
  | exit i=>exact⟨.exit i,X4,XM,rfl,hk,YJ⟩
  | ret=>exact⟨.ret,X4,XM,rfl,hk,YJ⟩
 | .exit id,st,K,hB,he=>λρ a W hr=>y7 ⟨.exit id,st,ρ,rfl,he,hr⟩
 | .ret,st,K,hB,he=>λρ a W hr=>Ny ⟨.ret,st,ρ,rfl,he,hr⟩
 | .rangeFunc ..,st,K,hB,he=>he.elim
 | .scope _,st,K,hB,he=>he.elim
 | .label _,st,K,hB,he=>he.elim
 | .goto _,st,K,hB,he=>he.elim
 | .refuse _,st,K,hB,he=>he.elim
def Sat(C:Cx PP)(nt:Nat)(w0:World)(XN:Names)(c:Code)(st:St)(K:Ex->St->Prop):Prop:=
 ∀ρ a W,Rp C nt w0 XN st ρ a W->wpJ C.P C.co c (λe a' W'=>∃x X4 XM,e=Ex.to x∧K x X4∧Rp C nt w0 XN X4 XM a' W') a W
theorem AV{h:How}(hI:eT C I)(hm:C.P.follows .mixedOrders=true)(X5:∀n b,XN.n n=some b->n<nm0)(XP:∀e l,XN.v e=some l->e<nm0∧l.o<nm0)(XQ:∀m i l,XN.k m i=some l->m<nm0)(c:Code)(st:St)(K:Ex->St->Prop)(hB:dL h.fl c=true)(he:ev Γ nt nm0 I inls h c st K):Sat C nt w0 XN c st K:=λρ a W hR=>(dQ hI hm X5 XP XQ c st K hB he ρ a W hR).toJ
end
end Go.Proofs.YtmdpdknpapjchaaGreatDoor
