/- A symbolic executor with lists, 17. -/
import Derived.Test.YtgigkennhdolpaaGreatDoorM14
namespace Go.Proofs.YtgigkennhdolpaaGreatDoor
open Go.RowKit
inductive Ex where
 | normal
 | exit (id:Nat)
 | ret
def Ex.to:Ex->Exit
 | .normal=>.normal
 | .exit i=>.exit i
 | .ret=>.ret
def qd(sl:List (Nat×Slot)):Operand->Option SV
 | .const v=>some (bZ v)
 | .global g=>some (.v (.pointer (some ⟨g,0,none⟩)))
 | .func f=>some (.v (.func (.func f) #[] #[]))
 | .tmp t=>match look sl t with
  | none=>none
  | some ⟨_,_,g,v⟩=>match g with|[]=>some v|_::_=>none
theorem EJ{sl:List (Nat×Slot)}{x:Operand} : qd sl x=match x with
 | .const v=>some (bZ v)
 | .global g=>some (.v (.pointer (some ⟨g,0,none⟩)))
 | .func f=>some (.v (.func (.func f) #[] #[]))
 | .tmp t=>match look sl t with
  | none=>none
  | some s=>match s.g with|[]=>some s.v|_::_=>none:=by
 cases x with
 | tmp t=>
  simp only[qd];cases look sl t with
  | none=>rfl
  | some s=>cases s;rfl
 | _=>rfl
def WM:List (Nat×Nat)->Nat->Nat
 | [],n=>n
 | (a,b)::r,n=>match Nat.beq a n with|true=>b|false=>WM r n
def E0(σ:List (Nat×Nat))(o:Nat):Nat->Option Nat
 | 0=>none
 | k+1=>match Nat.beq (WM σ k) o with|true=>some k|false=>E0 σ o k
def iq(nm:Nat)(σ:List (Nat×Nat))(ρ:Names):Names:=
 ⟨λn=>match Nat.blt n nm with|true=>ρ.n (WM σ n)|false=>none,
 λe=>match Nat.blt e nm with
  | true=>match ρ.v (WM σ e) with
   | some l=>match E0 σ l.o nm with|some o=>some ⟨o,l.a,l.cap,l.N⟩|none=>none
   | none=>none
  | false=>none,
 λm i=>match Nat.blt m nm with|true=>ρ.k (WM σ m) i|false=>none,
 ρ.z,ρ.d,ρ.o⟩
def jJ(nm:Nat)(σ:List (Nat×Nat))(n' n:Nat):Bool:=match Nat.blt n' nm with|true=>Nat.beq (WM σ n') n|false=>false
def eqO(b:Bool)(l:List Prop):Option (List Prop):=match b with|true=>some l|false=>none
def vqI(k:IntKind)(a:Int)(x:SV):Option (List Prop):=match x.int? with|none=>none|some (k',b)=>eqO (lA k k') [a=b]
def vqB(a:Bool)(x:SV):Option (List Prop):=match x.bool? with|none=>none|some b=>some [a=b]
def vqV(y:Value):SV->Option (List Prop)
 | .v y'=>some [y=y']
 | _=>none
def m7:Option (List Prop)->Option (List Prop)->Option (List Prop)
 | some a,some b=>some (a++b)
 | _,_=>none
mutual
def vq(nm:Nat)(σ:List (Nat×Nat)):SV->SV->Option (List Prop)
 | .v (.int k a),x=>vqI k a x
 | .il k a,x=>vqI k a x
 | .v (.bool a),x=>vqB a x
 | .bl a,x=>vqB a x
 | .v y,x=>vqV y x
 | .p n off,x=>match x with
  | .p n' VV=>match jJ nm σ n n' with|true=>eqO (Nat.beq off VV) []|false=>none
  | _=>none
 | .s n sz off len cap,x=>match x with
  | .s n' U9 VV XL cap'=>match jJ nm σ n n',Nat.beq sz U9,Nat.beq off VV,Nat.beq len XL with|true,true,true,true=>eqO (Nat.beq cap cap') []|_,_,_,_=>none
  | _=>none
 | .f fn p q,x=>match x with|.f fn' p' q'=>m7 (some [fn=fn']) (m7 (Vl nm σ p p') (Vl nm σ q q'))|_=>none
 | .agg l,x=>match x with|.agg l'=>Vl nm σ l l'|_=>none
 | .tup l,x=>match x with|.tup l'=>Vl nm σ l l'|_=>none
 | .e,x=>match x with|.e=>some []|.v (.slice none 0 0)=>some []|_=>none
 | .rs sz n h,x=>match x with
  | .rs U9 n' h'=>eqO (Nat.beq sz U9) [n=n',∀i,i<n'->aI (Vl nm σ (h i) (h' i))]
  | .e=>some [n=0]
  | .v (.slice none 0 0)=>some [n=0]
  | _=>none
 | .rp l off,x=>match x with|.rp l' VV=>m7 (some [off=VV]) (Vl nm σ l l')|_=>none
 | .g m e sz off n,x=>match x with
  | .g m' e' U9 VV n'=>match jJ nm σ m m',jJ nm σ e e' with|true,true=>eqO (Nat.beq sz U9) [off=VV,n=n']|_,_=>none
  | _=>none
 | .gp m e sz i off,x=>match x with
  | .gp m' e' U9 i' VV=>match jJ nm σ m m',jJ nm σ e e' with|true,true=>eqO (Nat.beq sz U9) [i=i',off=VV]|_,_=>none
  | _=>none
 | .m n,x=>match x with
  | .m n'=>match jJ nm σ n n' with|true=>some []|false=>none
  | _=>none
 | .kd m i sz off n,x=>match x with
  | .kd m' i' U9 VV n'=>match jJ nm σ m m' with|true=>eqO (Nat.beq sz U9) [i=i',off=VV,n=n']|_=>none
  | _=>none
 | .kq m i sz j off,x=>match x with
  | .kq m' i' U9 j' VV=>match jJ nm σ m m' with|true=>eqO (Nat.beq sz U9) [i=i',j=j',off=VV]|_=>none
  | _=>none
def Vl(nm:Nat)(σ:List (Nat×Nat)):List SV->List SV->Option (List Prop)
 | [],x=>match x with|[]=>some []|_::_=>none
 | y::r,x=>match x with|[]=>none|x::s=>m7 (vq nm σ y x) (Vl nm σ r s)
end
def K4(nm:Nat)(σ:List (Nat×Nat))(st:St):List (Nat×Slot)->Option (List Prop)
 | []=>some []
 | (t,s')::r=>match look st.sl t with
  | none=>none
  | some s=>match s.g,s'.g with|[],[]=>m7 (vq nm σ s'.v s.v) (K4 nm σ st r)|_,_=>none
def Ax(nm:Nat)(σ:List (Nat×Nat))(n:Nat):SB->SB->Option (List Prop)
 | .lay cs t,x=>match x with
  | .lay X' t'=>match Nat.beq t t' with|true=>Vl nm σ cs X'|false=>none
  | _=>none
 | .lst e sz N h t,x=>match x with
  | .lst e' U9 N' h' t'=>match jJ nm σ e e',Nat.beq sz U9 with|true,true=>eqO (Nat.beq t t') [N=N',∀i,i<N'->aI (Vl nm σ (h i) (h' i))]|_,_=>none
  | _=>none
 | .gone,_=>some []
 | .nst e sz N h p Vb g tk t last,x=>match x with
  | .nst e' U9 N' h' p' ZW g' tk' t' XX=>match last,XX,jJ nm σ e e',Nat.beq sz U9,Nat.beq p p',Nat.beq Vb ZW,Nat.beq tk tk' with
   | none,none,true,true,true,true,true=>eqO (Nat.beq t t') [N=N',∀i,i<N'->aI (Vl nm σ ((h i).set p .e) ((h' i).set p .e)),∀i,i<N'->(g i).1=(g' i).1,∀i,i<N'->∀j,j<(g' i).1->aI (Vl nm σ ((g i).2 j) ((g' i).2 j))]
   | _,_,_,_,_,_,_=>none
  | _=>none
 | .mp k ag has g,x=>match x with
  | .mp k' ag' has' g'=>match oV k k',AO ag ag' with|true,true=>some [∀j,has j=has' j,∀j,has' j=true->aI (Vl nm σ (g j) (g' j))]|_,_=>none
  | _=>none
def vqH(nm:Nat)(σ:List (Nat×Nat))(st:St):aY->Option (List Prop)
 | []=>some []
 | (n,Vu)::r=>match look st.H (WM σ n),Nat.blt n nm with
  | some sb,true=>m7 (Ax nm σ n Vu sb) (vqH nm σ st r)
  | _,_=>none
def wM(σ:List (Nat×Nat))(m:Nat):Nat->Bool
 | 0=>true
 | k+1=>match Nat.beq (WM σ k) (WM σ m) with|true=>false|false=>wM σ m k
def Mh(σ:List (Nat×Nat)):Nat->Bool
 | 0=>true
 | k+1=>match wM σ k k with|true=>Mh σ k|false=>false
def Mv(σ:List (Nat×Nat)):Nat->Bool
 | 0=>true
 | k+1=>match Nat.beq (WM σ k) k with|true=>Mv σ k|false=>false
def rgB(rg:Nat):List (Nat×Slot)->Bool
 | []=>true
 | (_,s)::r=>match Nat.ble s.rg rg with|true=>rgB rg r|false=>false
def JA(nm0:Nat)(σ:List (Nat×Nat))(UZ:St):Bool:=match Nat.ble nm0 UZ.nm,Mh σ UZ.nm,Mv σ nm0,rgB UZ.rg UZ.sl with|true,true,true,true=>true|_,_,_,_=>false
def SG(m:Nat)(sb:SB)(n off:Nat):SV:=match Nat.beq n m,sb with
 | true,.lay cs _=>.rp cs off
 | _,_=>.p n off
def SK(m:Nat)(sb:SB)(n sz off len cap:Nat):SV:=match Nat.beq n m,sb with
 | true,.lay cs _=>match Nat.ble (off+len*sz) cs.length,Nat.ble len cap with
  | true,true=>.rs sz len (λi=>chunk (cs.drop off) sz i)
  | _,_=>.s n sz off len cap
 | _,_=>.s n sz off len cap
def SI(m:Nat)(sb:SB)(m' e' U9 off n:Nat):SV:=match Nat.beq m' m,sb with
 | true,.lst e sz _ h _=>match Nat.beq e' e,Nat.beq U9 sz with|true,true=>.rs sz n (λi=>h (off+i))|_,_=>.g m' e' U9 off n
 | true,.nst e sz _ h p Vb g _ _ none=>match Nat.beq e' e,Nat.beq U9 sz with|true,true=>.rs sz n (λi=>EL h p Vb g (off+i))|_,_=>.g m' e' U9 off n
 | _,_=>.g m' e' U9 off n
def OF(m:Nat)(sb:SB)(m' e' U9 i off:Nat):SV:=match Nat.beq m' m,sb with
 | true,.lst e sz _ h _=>match Nat.beq e' e,Nat.beq U9 sz with|true,true=>.rp (h i) off|_,_=>.gp m' e' U9 i off
 | true,.nst e sz _ h p Vb g _ _ none=>match Nat.beq e' e,Nat.beq U9 sz with|true,true=>.rp (EL h p Vb g i) off|_,_=>.gp m' e' U9 i off
 | _,_=>.gp m' e' U9 i off
def SH(m:Nat)(sb:SB)(m' i U9 off n:Nat):SV:=match Nat.beq m' m,sb with
 | true,.nst _ _ _ _ _ Vb g _ _ none=>match Nat.beq U9 Vb with|true=>.rs Vb n (λj=>(g i).2 (off+j))|_=>.kd m' i U9 off n
 | _,_=>.kd m' i U9 off n
def SF(m:Nat)(sb:SB)(m' i U9 j off:Nat):SV:=match Nat.beq m' m,sb with
 | true,.nst _ _ _ _ _ Vb g _ _ none=>match Nat.beq U9 Vb with|true=>.rp ((g i).2 j) off|_=>.kq m' i U9 j off
 | _,_=>.kq m' i U9 j off
mutual
def ue(m:Nat)(sb:SB):SV->SV
 | .g m' e' U9 off n=>SI m sb m' e' U9 off n
 | .gp m' e' U9 i off=>OF m sb m' e' U9 i off
 | .kd m' i U9 off n=>SH m sb m' i U9 off n
 | .kq m' i U9 j off=>SF m sb m' i U9 j off
 | .m n=>.m n
 | .agg l=>.agg (Bp m sb l)
 | .tup l=>.tup (Bp m sb l)
 | .f fn x y=>.f fn (Bp m sb x) (Bp m sb y)
 | .v x=>.v x
 | .il k n=>.il k n
 | .bl b=>.bl b
 | .p n off=>SG m sb n off
 | .s n sz off len cap=>SK m sb n sz off len cap
 | .e=>.e
 | .rs sz n h=>.rs sz n h
 | .rp x off=>.rp x off
def Bp(m:Nat)(sb:SB):List SV->List SV
 | []=>[]
 | x::r=>ue m sb x::Bp m sb r
end
def yR(m:Nat)(sb:SB):List (Nat×Slot)->List (Nat×Slot)
 | []=>[]
 | (t,s)::r=>(t,⟨s.rg,s.k,s.g,ue m sb s.v⟩)::yR m sb r
def OE(m:Nat)(sb:SB):SB->SB
 | .lay cs t=>.lay (Bp m sb cs) t
 | x=>x
def I4(m:Nat)(sb:SB):aY->aY
 | []=>[]
 | (n,b)::r=>(n,OE m sb b)::I4 m sb r
def I3:SB->Bool
 | .lst _ _ _ _ _=>true
 | .lay cs _=>da cs
 | .gone=>false
 | .mp _ _ _ _=>false
 | .nst _ _ _ _ _ _ _ _ _ last=>match last with|none=>true|some _=>false
inductive Tr where
 | freeze (m:Nat)
  /-- .. with an age of its own. -/
 | slot2 (t sz:Nat) (ty:TypeId)
 | cell2 (n i sz:Nat) (ty:TypeId)
  /-- .. a list of lists: X5 cell Yu they lie in, their size. -/
 | cellN (n i sz p Vb:Nat) (tk ty:TypeId)
  /-- The list of X5 element Yu was put behind a list of lists becomes its own; whoever else knows it, forgets it. -/
 | bq (M:Nat)
def td:SV->Bool
 | .e=>true
 | .v (.slice none 0 0)=>true
 | _=>false
def pF(m:Nat):List (Nat×Slot)->List (Nat×Slot)
 | []=>[]
 | (t,s)::r=>match qB m (dH s.v) with
  | true=>(t,⟨s.rg,s.k,[(0,true)],.e⟩)::pF m r
  | false=>(t,s)::pF m r
def te(m:Nat):SB->SB
 | .lay cs t=>match qB m (gA cs) with|true=>.gone|false=>.lay cs t
 | .nst e sz N h p Vb g tk t last=>match last with
  | none=>.nst e sz N h p Vb g tk t none
  | some cs=>match qB m (gA cs) with|true=>.gone|false=>.nst e sz N h p Vb g tk t (some cs)
 | x=>x
def ve(m:Nat):aY->aY
 | []=>[]
 | (n,b)::r=>(n,te m b)::ve m r
def AV{α:Type}(N:Nat)(x:α)(f:Nat->α):Nat->α:=λi=>match Nat.beq i N with|true=>x|false=>f i
def xk(nm0 M:Nat)(H:aY):Option (Nat×SB):=match look H M with
 | some (.nst e sz N h p Vb g tk t (some cs))=>match cs[p]?,da (cs.set p .e) with
  | some (.g m1 e1 szk1 0 n1),true=>match look H m1 with
   | some (.lst e1' szk1' _ h1 t1)=>match Nat.beq e1 e1',Nat.beq szk1 szk1',Nat.beq szk1 Vb,Nat.beq t1 tk,Nat.ble nm0 m1 with
    | true,true,true,true,true=>some (m1,.nst e sz (N+1) (AV N cs h) p Vb (AV N (n1,h1) g) tk t none)
    | _,_,_,_,_=>none
   | _=>none
  | _,_=>none
 | _=>none
def tr1(nm0:Nat):Tr->St->St
 | .freeze m,⟨sl,H,nm,rg,rd,ws⟩=>match look H m with
  | some sb=>match I3 sb with
   | true=>⟨yR m sb sl,(m,.gone)::I4 m sb H,nm,rg,rd,ws⟩
   | false=>⟨sl,H,nm,rg,rd,ws⟩
  | _=>⟨sl,H,nm,rg,rd,ws⟩
 | .slot2 t sz ty,⟨sl,H,nm,rg,rd,ws⟩=>match look sl t with
  | some ⟨r,k,[],v⟩=>match td v,Nat.ble r rg with
   | true,true=>⟨(t,⟨r,k,[],.g nm (nm+1) sz 0 0⟩)::sl,(nm,.lst (nm+1) sz 0 (λ_=>[]) ty)::H,nm+2,rg,rd,ws⟩
   | _,_=>⟨sl,H,nm,rg,rd,ws⟩
  | _=>⟨sl,H,nm,rg,rd,ws⟩
 | .cell2 n i sz ty,⟨sl,H,nm,rg,rd,ws⟩=>match look H n with
  | some (.lay cs t)=>match cs[i]? with
   | some v=>match td v with
    | true=>⟨sl,(n,.lay (cs.set i (.g nm (nm+1) sz 0 0)) t)::(nm,.lst (nm+1) sz 0 (λ_=>[]) ty)::H,nm+2,rg,rd,ws⟩
    | false=>⟨sl,H,nm,rg,rd,ws⟩
   | none=>⟨sl,H,nm,rg,rd,ws⟩
  | _=>⟨sl,H,nm,rg,rd,ws⟩
 | .cellN n i sz p Vb tk ty,⟨sl,H,nm,rg,rd,ws⟩=>match look H n with
  | some (.lay cs t)=>match cs[i]? with
   | some v=>match td v with
    | true=>⟨sl,(n,.lay (cs.set i (.g nm (nm+1) sz 0 0)) t)::(nm,.nst (nm+1) sz 0 (λ_=>[]) p Vb (λ_=>(0,λ_=>[])) tk ty none)::H,nm+2,rg,rd,ws⟩
    | false=>⟨sl,H,nm,rg,rd,ws⟩
   | none=>⟨sl,H,nm,rg,rd,ws⟩
  | _=>⟨sl,H,nm,rg,rd,ws⟩
 | .bq M,⟨sl,H,nm,rg,rd,ws⟩=>match xk nm0 M H with
  | some (m1,sb)=>⟨pF m1 sl,(M,sb)::(m1,.gone)::ve m1 H,nm,rg,rd,ws⟩
  | none=>⟨sl,H,nm,rg,rd,ws⟩
def trs(nm0:Nat):List Tr->St->St
 | [],st=>st
 | t::r,st=>trs nm0 r (tr1 nm0 t st)
def Ge(nm0:Nat)(σ:List (Nat×Nat))(UZ st:St):Prop:=match JA nm0 σ UZ with|true=>aI (m7 (K4 UZ.nm σ st UZ.sl) (vqH UZ.nm σ st UZ.H))|false=>False
structure Cut where
 α:Type
 P:α->Prop
 J:α->St
 μ:α->Nat
def Cut.at_(c:Cut)(nm0:Nat)(st:St)(Q:c.α->Prop):Prop:=∃(a:c.α) (σ:List (Nat×Nat)) (t:List Tr),Q a∧c.P a∧Ge nm0 σ (c.J a) (trs nm0 t st)
def wK:Code->Option Nat
 | .region id _ _=>some id
 | .seq x _=>wK x
 | .block _ x=>wK x
 | .loop x=>wK x
 | _=>none
def cutAt(cuts:List Nat)(c:Code):Bool:=match wK c with|none=>false|some id=>qB id cuts
def xA(K:Ex->St->Prop)(M:St->Prop):Ex->St->Prop
 | .normal,st=>M st
 | .exit i,st=>K (.exit i) st
 | .ret,st=>K .ret st
def unr(f:St->(Ex->St->Prop)->Prop):Nat->St->(Ex->St->Prop)->Prop
 | 0,_,_=>False
 | n+1,st,K=>f st (xA K λUZ=>unr f n UZ K)
structure XA where
 fl:List Nat
 cuts:List Nat
 invs:List Nat
 fu:Nat
def ev{PP:Program}{C:Cx PP}(Γ:List (UO C))(nt nm0:Nat)(I:Ya)(inls:List Nat)(h:XA):Code->St->(Ex->St->Prop)->Prop
 | .skip,st,K=>K .normal st
 | .region id ops draw,st,K=>oB Γ nt I inls (OD h.fl id) (qB (1000+id) h.fl) ops draw st (K .normal)
 | .seq x y,st,K=>match cutAt h.cuts y with
  | false=>ev Γ nt nm0 I inls h x st (xA K λUZ=>ev Γ nt nm0 I inls h y UZ K)
  | true=>∃c:Cut,ev Γ nt nm0 I inls h x st (xA K λUZ=>c.at_ nm0 UZ λ_=>True)∧∀a,c.P a->ev Γ nt nm0 I inls h y (c.J a) K
 | .cond c x y,st,K=>match qd st.sl c with
  | some (.bl true)=>match cutAt h.cuts x with
   | false=>ev Γ nt nm0 I inls h x st K
   | true=>∃c:Cut,c.at_ nm0 st (λ_=>True)∧∀a,c.P a->ev Γ nt nm0 I inls h x (c.J a) K
  | some (.bl false)=>ev Γ nt nm0 I inls h y st K
  | some (.v (.bool b))=>match cutAt h.cuts x with
   | false=>(b=true->ev Γ nt nm0 I inls h x st K)∧(b=false->ev Γ nt nm0 I inls h y st K)
   | true=>(b=true->∃c:Cut,c.at_ nm0 st (λ_=>True)∧∀a,c.P a->ev Γ nt nm0 I inls h x (c.J a) K)∧(b=false->ev Γ nt nm0 I inls h y st K)
  | _=>False
 | .block id x,st,K=>ev Γ nt nm0 I inls h x st λe UZ=>match e with
  | .normal=>K .normal UZ
  | .exit i=>match Nat.beq i id with|true=>K .normal UZ|false=>K (.exit i) UZ
  | .ret=>K .ret UZ
 | .loop x,st,K=>match cutAt h.invs x with
  | false=>unr (λst K=>ev Γ nt nm0 I inls h x st K) h.fu st K
  | true=>∃c:Cut,c.at_ nm0 st (λ_=>True)∧∀a,c.P a->ev Γ nt nm0 I inls h x (c.J a) (xA K λUZ=>c.at_ nm0 UZ λb=>c.μ b<c.μ a)
 | .exit id,st,K=>K (.exit id) st
 | .ret,st,K=>K .ret st
 | _,_,_=>False
def du(fl:List Nat):Code->Bool
 | .region id ops draw=>Ct (OD fl id) ops draw&&ops.toList.all LW
 | .seq x y=>du fl x&&du fl y
 | .cond _ x y=>du fl x&&du fl y
 | .block _ x=>du fl x
 | .loop x=>du fl x
 | _=>true
theorem fE{b:Bool}{l m:List Prop}(h:eqO b l=some m):b=true∧m=l:=by unfold eqO at h;split at h;exact⟨rfl,(Oi h).symm⟩;cases h
theorem dX{a b:Option (List Prop)}{l:List Prop}(h:m7 a b=some l):∃p q,a=some p∧b=some q∧l=p++q:=by unfold m7 at h;split at h;exact⟨_,_,rfl,rfl,(Oi h).symm⟩;cases h
theorem eR{nm:Nat}{σ:List (Nat×Nat)}{n' n:Nat}(h:jJ nm σ n' n=true):n'<nm∧WM σ n'=n:=by unfold jJ at h;split at h;rename_i hb;rw[Nat.blt_eq] at hb;exact⟨hb,Nb h⟩;cases h
theorem pj{σ:List (Nat×Nat)}{o m:Nat} : ∀{k:Nat},E0 σ o k=some m->m<k∧WM σ m=o
 | 0,h=>by cases h
 | k+1,h=>by simp only[E0] at h;split at h;rename_i hb;obtain rfl:=Oi h;exact⟨Nat.lt_succ_self _,Nb hb⟩;have:=pj h;exact⟨by omega,this.2⟩
theorem C6{σ:List (Nat×Nat)}{m:Nat} : ∀{k:Nat},m<k->∃m',E0 σ (WM σ m) k=some m'
 | 0,h=>by omega
 | k+1,h=>by simp only[E0];split;exact⟨k,rfl⟩;rename_i hb;have:m≠k:=(by rintro rfl;rw[UG] at hb;cases hb);exact C6 (by omega)
def BZ(nm:Nat)(σ:List (Nat×Nat)):Prop:=∀i j,i<nm->j<nm->WM σ i=WM σ j->i=j
theorem pK{nm n b:Nat}{σ:List (Nat×Nat)}{ρ:Names}(hn:n<nm)(h:ρ.n (WM σ n)=some b):(iq nm σ ρ).n n=some b:=by
 have hb:Nat.blt n nm=true:=by rw[Nat.blt_eq];exact hn
 simp only[iq,hb,h]
theorem gO{nm n b:Nat}{σ:List (Nat×Nat)}{ρ:Names}(h:(iq nm σ ρ).n n=some b):n<nm∧ρ.n (WM σ n)=some b:=by simp only[iq] at h;split at h;rename_i hb;rw[Nat.blt_eq] at hb;exact⟨hb,h⟩;cases h
theorem tu{nm e m:Nat}{l:LV}{σ:List (Nat×Nat)}{ρ:Names}(hi:BZ nm σ)(he:e<nm)(hm:m<nm)(h:ρ.v (WM σ e)=some l)(ho:l.o=WM σ m):(iq nm σ ρ).v e=some ⟨m,l.a,l.cap,l.N⟩:=by
 have hb:Nat.blt e nm=true:=by rw[Nat.blt_eq];exact he
 obtain⟨m',hm'⟩:=C6 (σ:=σ) hm;have hmm:m'=m:=by obtain⟨h1,h2⟩:=pj hm';exact hi m' m h1 hm h2
 subst hmm;simp only[iq,hb,h,ho,hm']
theorem fP{nm e:Nat}{l:LV}{σ:List (Nat×Nat)}{ρ:Names}(h:(iq nm σ ρ).v e=some l):e<nm∧l.o<nm∧∃l0,ρ.v (WM σ e)=some l0∧l0.o=WM σ l.o∧l.a=l0.a∧l.cap=l0.cap∧l.N=l0.N:=by simp only[iq] at h;split at h;rename_i hb;rw[Nat.blt_eq] at hb;split at h;rename_i l0 hl;split at h;rename_i o ho;obtain rfl:=Oi h;obtain⟨h1,h2⟩:=pj ho;exact⟨hb,h1,l0,hl,h2.symm,rfl,rfl,rfl⟩;cases h;cases h;cases h
theorem tv{nm m i:Nat}{l:LV}{σ:List (Nat×Nat)}{ρ:Names}(hn:m<nm)(h:ρ.k (WM σ m) i=some l):(iq nm σ ρ).k m i=some l:=by
 have hb:Nat.blt m nm=true:=by rw[Nat.blt_eq];exact hn
 simp only[iq,hb,h]
theorem dt{nm m i:Nat}{l:LV}{σ:List (Nat×Nat)}{ρ:Names}(h:(iq nm σ ρ).k m i=some l):m<nm∧ρ.k (WM σ m) i=some l:=by simp only[iq] at h;split at h;rename_i hb;rw[Nat.blt_eq] at hb;exact⟨hb,h⟩;cases h
theorem mA{nm n b:Nat}{σ:List (Nat×Nat)}{ρ:Names}(h:bT (iq nm σ ρ) n b):n<nm∧bT ρ (WM σ n) b:=by
 rcases h with h|⟨e,l,o,h1,h2,h3,h4⟩|⟨i,l,o,h1,h3,h4⟩
 obtain⟨k1,k2⟩:=gO h;exact⟨k1,.inl k2⟩;obtain⟨k1,k2,l0,k3,k4,k5,k6,k7⟩:=fP h1;subst h2;exact⟨k2,.inr (.inl ⟨_,l0,o,k3,k4,by rw[<-k6];exact h3,by rw[<-k5];exact h4⟩)⟩;obtain⟨k1,k2⟩:=dt h1;exact⟨k1,.inr (.inr ⟨i,l,o,k2,h3,h4⟩)⟩
theorem mz(nm:Nat)(σ:List (Nat×Nat))(ρ:Names):(iq nm σ ρ.zo).le (iq nm σ ρ).zo:=
 ⟨λn b h=>(by obtain⟨-,h⟩:=gO h;cases h),λn b h=>(by obtain⟨-,-,l,h,-⟩:=fP h;cases h),λn i b h=>(by obtain⟨-,h⟩:=dt h;cases h),λ_ _ _ h=>h⟩
theorem G2{k:IntKind}{a:Int}{x:SV}{l:List Prop}{ρ:Names}{y:Value}(h:vqI k a x=some l)(hc:aH l)(hd:den ρ x y):y=.int k a:=by unfold vqI at h;split at h;cases h;rename_i k' b hx;obtain⟨hk,rfl⟩:=fE h;have hc:a=b:=hc;rw[SV.int?_den hx hd,hc,fV hk]
theorem G4{a:Bool}{x:SV}{l:List Prop}{ρ:Names}{y:Value}(h:vqB a x=some l)(hc:aH l)(hd:den ρ x y):y=.bool a:=by unfold vqB at h;split at h;cases h;rename_i b hx;obtain rfl:=Oi h;have hc:a=b:=hc;rw[SV.bool?_den hx hd,hc]
theorem O1{z:Value}{x:SV}{l:List Prop}{ρ:Names}{y:Value}(h:vqV z x=some l)(hc:aH l)(hd:den ρ x y):y=z:=by unfold vqV at h;split at h;obtain rfl:=Oi h;have hc:z=_:=hc;rw[hc];exact hd;cases h
mutual
theorem xx{nm:Nat}{σ:List (Nat×Nat)}(hi:BZ nm σ):∀(v' v:SV) (l:List Prop),vq nm σ v' v=some l->aH l->∀(ρ:Names) (y:Value),den ρ v y->den (iq nm σ ρ) v' y
 | .v z,x,l,h,hc,ρ,y,hd=>by
  cases z
  case int k b=>exact G2 h hc hd
  case bool b=>exact G4 h hc hd
  all_goals exact O1 h hc hd
 | .il k b,x,l,h,hc,ρ,y,hd=>G2 h hc hd
 | .bl b,x,l,h,hc,ρ,y,hd=>G4 h hc hd
 | .p n off,x,l,h,hc,ρ,y,hd=>by simp only[vq] at h;split at h;split at h;rename_i hn;obtain⟨ho,-⟩:=fE h;have ho:=Nb ho;obtain⟨h1,rfl⟩:=eR hn;obtain⟨b,e1,e2⟩:=hd;exact⟨b,pK h1 e1,by rw[ho];exact e2⟩;cases h;cases h
 | .s n sz off len cap,x,l,h,hc,ρ,y,hd=>by simp only[vq] at h;split at h;split at h;rename_i hn b1 b2 b3;obtain⟨b4,-⟩:=fE h;have b2:=Nb b2;have b3:=Nb b3;have b4:=Nb b4;obtain⟨h1,rfl⟩:=eR hn;obtain⟨b,e1,e2⟩:=hd;exact⟨b,pK h1 e1,by rw[b2,b3,b4];exact e2⟩;cases h;cases h
 | .f fn p q,x,l,h,hc,ρ,y,hd=>by simp only[vq] at h;split at h;obtain⟨l1,l2,h1,h2,rfl⟩:=dX h;obtain⟨l3,l4,h3,h4,rfl⟩:=dX h2;obtain rfl:=Oi h1;obtain⟨c1,c2⟩:=bV hc;obtain⟨c3,c4⟩:=bV c2;obtain⟨u,w,e1,e2,e3⟩:=hd;have c1:fn=_:=c1;exact⟨u,w,gR hi p _ l3 h3 c3 ρ u e1,gR hi q _ l4 h4 c4 ρ w e2,by rw[c1];exact e3⟩;cases h
 | .agg m,x,l,h,hc,ρ,y,hd=>by simp only[vq] at h;split at h;obtain⟨u,e1,e2⟩:=hd;exact⟨u,gR hi m _ l h hc ρ u e1,e2⟩;cases h
 | .tup m,x,l,h,hc,ρ,y,hd=>by simp only[vq] at h;split at h;obtain⟨u,e1,e2⟩:=hd;exact⟨u,gR hi m _ l h hc ρ u e1,e2⟩;cases h
 | .e,x,l,h,hc,ρ,y,hd=>by simp only[vq] at h;split at h;exact hd;obtain rfl:y=_:=hd;exact⟨_,rfl⟩;cases h
 | .rs sz n f,x,l,h,hc,ρ,y,hd=>by
  simp only[vq] at h;split at h
  ·obtain⟨hb,rfl⟩:=fE h;have hb:=Nb hb;obtain⟨c1,c2⟩:=cX hc;subst c1 hb;obtain⟨a,cap,e1,e2,e3⟩:=hd;refine⟨a,cap,e1,e2,λi VT=>?_⟩;obtain⟨b,o,u,k1,k2,k3⟩:=e3 i VT;have YA:=(show ∀i,i<n->_ from c2) i VT;refine⟨b,o,u,k1,?_,k3⟩;generalize hq:Vl nm σ (f i) _=q at YA;cases q with
   | none=>exact YA.elim
   | some q=>exact aE (mz nm σ ρ) _ _ (gR hi (f i) _ q hq YA ρ.zo u k2)
  obtain rfl:=Oi h;have hc:n=0:=hc;subst hc;obtain⟨a,rfl⟩:=hd;exact⟨a,0,rfl,I' _,λi VT=>Up VT (by omega)⟩;obtain rfl:=Oi h;have hc:n=0:=hc;subst hc;obtain rfl:y=_:=hd;exact⟨none,0,rfl,I' _,λi VT=>Up VT (by omega)⟩;cases h
 | .rp m off,x,l,h,hc,ρ,y,hd=>by simp only[vq] at h;split at h;obtain⟨l1,l2,h1,h2,rfl⟩:=dX h;obtain rfl:=Oi h1;obtain⟨c1,c2⟩:=bV hc;have c1:off=_:=c1;obtain⟨b,o,u,e1,e2,e3⟩:=hd;exact⟨b,o,u,by rw[c1];exact e1,aE (mz nm σ ρ) _ _ (gR hi m _ l2 h2 c2 ρ.zo u e2),e3⟩;cases h
 | .g m e sz off n,x,l,h,hc,ρ,y,hd=>by simp only[vq] at h;split at h;split at h;rename_i hm he;obtain⟨hb,rfl⟩:=fE h;have hb:=Nb hb;obtain⟨c1,c2⟩:=cX hc;have c2:n=_:=c2;subst c1 c2 hb;obtain⟨m1,rfl⟩:=eR hm;obtain⟨m2,rfl⟩:=eR he;obtain⟨lv,e1,e2,e3,e4,e5⟩:=hd;exact⟨_,tu hi m2 m1 e1 e2,rfl,e3,e4,e5⟩;cases h;cases h
 | .gp m e sz i off,x,l,h,hc,ρ,y,hd=>by simp only[vq] at h;split at h;split at h;rename_i hm he;obtain⟨hb,rfl⟩:=fE h;have hb:=Nb hb;obtain⟨c1,c2⟩:=cX hc;have c2:off=_:=c2;subst c1 c2 hb;obtain⟨m1,rfl⟩:=eR hm;obtain⟨m2,rfl⟩:=eR he;obtain⟨lv,b,e1,e2,e3,e4,e5,e6⟩:=hd;exact⟨_,b,tu hi m2 m1 e1 e2,rfl,e3,e4,e5,e6⟩;cases h;cases h
 | .m n,x,l,h,hc,ρ,y,hd=>by simp only[vq] at h;split at h;split at h;rename_i hm;obtain⟨m1,rfl⟩:=eR hm;obtain⟨b,e1,e2⟩:=hd;exact⟨b,pK m1 e1,e2⟩;cases h;cases h
 | .kd m i sz off n,x,l,h,hc,ρ,y,hd=>by simp only[vq] at h;split at h;split at h;rename_i hm;obtain⟨hb,rfl⟩:=fE h;have hb:=Nb hb;obtain⟨c1,c2⟩:=cX hc;obtain⟨c2,c3⟩:=cX c2;have c3:n=_:=c3;subst c1 c2 c3 hb;obtain⟨m1,rfl⟩:=eR hm;obtain⟨lv,e1,e2⟩:=hd;exact⟨lv,tv m1 e1,e2⟩;cases h;cases h
 | .kq m i sz j off,x,l,h,hc,ρ,y,hd=>by simp only[vq] at h;split at h;split at h;rename_i hm;obtain⟨hb,rfl⟩:=fE h;have hb:=Nb hb;obtain⟨c1,c2⟩:=cX hc;obtain⟨c2,c3⟩:=cX c2;have c3:off=_:=c3;subst c1 c2 c3 hb;obtain⟨m1,rfl⟩:=eR hm;obtain⟨lv,b,e1,e2⟩:=hd;exact⟨lv,b,tv m1 e1,e2⟩;cases h;cases h
theorem gR{nm:Nat}{σ:List (Nat×Nat)}(hi:BZ nm σ):∀(v' v:List SV) (l:List Prop),Vl nm σ v' v=some l->aH l->∀(ρ:Names) (y:List Value),aj ρ v y->aj (iq nm σ ρ) v' y
 | [],x,l,h,hc,ρ,y,hd=>by
  cases x with
  | nil=>exact hd
  | cons _ _=>cases h
 | v'::r,x,l,h,hc,ρ,y,hd=>by
  cases x with
  | nil=>cases h
  | cons x s=>
   obtain⟨l1,l2,h1,h2,rfl⟩:=dX h;obtain⟨c1,c2⟩:=bV hc;obtain⟨a,b,e1,e2,e3⟩:=hd;exact⟨a,b,e1,xx hi v' x l1 h1 c1 ρ a e2,gR hi r s l2 h2 c2 ρ b e3⟩
end
theorem Cc{nm:Nat}{σ:List (Nat×Nat)}{st:St} : ∀{l:List (Nat×Slot)} {p:List Prop},K4 nm σ st l=some p->aH p->∀t s',look l t=some s'->∃s q,look st.sl t=some s∧s.g=[]∧vq nm σ s'.v s.v=some q∧aH q
 | [],_,_,_,t,s',h=>by cases h
 | (u,x)::r,p,h,hc,t,s',hs=>by simp only[K4] at h;split at h;cases h;rename_i s hl;split at h;rename_i hg _;obtain⟨l1,l2,h1,h2,rfl⟩:=dX h;obtain⟨c1,c2⟩:=bV hc;by_cases e:u=t;subst e;rw[af] at hs;obtain rfl:=Oi hs;exact⟨s,l1,hl,hg,h1,c1⟩;rw[ab _ _ e] at hs;exact Cc h2 c2 t s' hs;cases h
theorem G3{nm:Nat}{σ:List (Nat×Nat)}{st:St} : ∀{l:aY} {p:List Prop},vqH nm σ st l=some p->aH p->∀n Vu,look l n=some Vu->n<nm∧∃sb q,look st.H (WM σ n)=some sb∧Ax nm σ n Vu sb=some q∧aH q
 | [],_,_,_,t,s',h=>by cases h
 | (u,x)::r,p,h,hc,t,s',hs=>by simp only[vqH] at h;split at h;rename_i sb hl hb;rw[Nat.blt_eq] at hb;obtain⟨l1,l2,h1,h2,rfl⟩:=dX h;obtain⟨c1,c2⟩:=bV hc;by_cases e:u=t;subst e;rw[af] at hs;obtain rfl:=Oi hs;exact⟨hb,sb,l1,hl,h1,c1⟩;rw[ab _ _ e] at hs;exact G3 h2 c2 t s' hs;cases h
theorem Cd{nm:Nat}{σ:List (Nat×Nat)}(hi:BZ nm σ){ρ:Names}{z:Value} : ∀{a b:List SV} {p:Nat} {q:List Prop} {us:List Value},Vl nm σ (a.set p .e) (b.set p .e)=some q->aH q->aj ρ (b.set p (.v z)) us->aj (iq nm σ ρ) (a.set p (.v z)) us
 | [],b,p,q,us,h,hc,hd=>by
  cases b with
  | nil=>exact hd
  | cons y s=>cases p<;>cases h
 | x::r,b,p,q,us,h,hc,hd=>by
  cases b with
  | nil=>cases p<;>cases h
  | cons y s=>
   cases p with
   | zero=>
    obtain⟨l1,l2,h1,h2,rfl⟩:=dX h;obtain⟨c1,c2⟩:=bV hc;obtain⟨a,b,e1,e2,e3⟩:=hd;exact⟨a,b,e1,e2,gR hi r s l2 h2 c2 ρ b e3⟩
   | succ p=>
    obtain⟨l1,l2,h1,h2,rfl⟩:=dX h;obtain⟨c1,c2⟩:=bV hc;obtain⟨a,b,e1,e2,e3⟩:=hd;exact⟨a,b,e1,xx hi x y l1 h1 c1 ρ a e2,Cd hi h2 c2 e3⟩
theorem O2{nm n:Nat}{σ:List (Nat×Nat)}(hi:BZ nm σ)(hn:n<nm){e sz N N' p Vb:Nat}{h h':Nat->List SV}{g g':Nat->Nat×(Nat->List SV)}{tk t:TypeId}(he:e<nm){ρ:Names}{W:World}(c1:N=N')(c2:∀i,i<N'->aI (Vl nm σ ((h i).set p .e) ((h' i).set p .e)))
  (c3:∀i,i<N'->(g i).1=(g' i).1) (c4:∀i,i<N'->∀j,j<(g' i).1->aI (Vl nm σ ((g i).2 j) ((g' i).2 j))) (hd:cS ρ W (WM σ n) (.nst (WM σ e) sz N' h' p Vb g' tk t none)):cS (iq nm σ ρ) W n (.nst e sz N h p Vb g tk t none):=by
 subst c1;obtain⟨l,K⟩:=hd;refine⟨_,tu hi he hn K.hv K.ho,rfl,K.hN,K.hle,λVG=>?_,λi VT=>?_,λi VT=>?_,λi j q r b h1 h2=>K.ne i j q r b (dt h1).2 (dt h2).2⟩
 ·obtain⟨b,u,k1,k2,k3,k4,k5,k6,-,k8⟩:=K.row VG;refine⟨b,u,k1,k2,k3,k4,k5,λi VT=>?_,(λcs Xm=>by cases Xm),λi q b' h1=>k8 i q b' (dt h1).2⟩;obtain⟨q,us,q1,q2,q3⟩:=k6 i VT;refine⟨q,us,tv hn q1,?_,q3⟩;have YA:=c2 i VT;generalize hq:Vl nm σ _ _=x at YA;cases x with
  | none=>exact YA.elim
  | some x=>exact aE (mz nm σ ρ) _ _ (Cd hi hq YA q2)
 ·obtain⟨q,q1,q2,q3⟩:=K.kid i VT;refine⟨q,tv hn q1,by rw[c3 i VT];exact q2,q3.1,λhc=>?_⟩;obtain⟨b,u,k1,k2,k3,k4,k5,k6⟩:=q3.2 hc;refine⟨b,u,k1,k2,k3,k4,k5,λj hj=>?_⟩;obtain⟨us,p1,p2⟩:=k6 j hj;refine⟨us,?_,p2⟩;have YA:=c4 i VT j (by omega);generalize hq:Vl nm σ _ _=x at YA;cases x with
  | none=>exact YA.elim
  | some x=>exact aE (mz nm σ ρ) _ _ (gR hi _ _ x hq YA ρ.zo us p1)
 cases hk:(iq nm σ ρ).k n i with
 | none=>rfl
 | some l=>
  have:=(dt hk).2;rw[K.no i VT] at this;cases this
theorem K5{nm n:Nat}{σ:List (Nat×Nat)}(hi:BZ nm σ)(hn:n<nm){Vu sb:SB}{q:List Prop}(h:Ax nm σ n Vu sb=some q)(hc:aH q){ρ:Names}{W:World}(hd:cS ρ W (WM σ n) sb):cS (iq nm σ ρ) W n Vu:=by
 cases Vu with
 | gone=>trivial
 | mp k ag has g=>
  simp only[Ax] at h;split at h
  ·split at h
   ·rename_i hk ha;obtain rfl:=Oi h;obtain rfl:=jF hk;obtain rfl:=uC ha;obtain⟨c1,c2⟩:=cX hc;obtain rfl:has=_:=funext c1;obtain⟨b,es,cl,h1,h2,h3,h4⟩:=hd;refine⟨b,es,cl,pK hn h1,h2,h3,λx hx=>?_,h4.yes⟩;obtain⟨m,q1,q2,u,q3,q4⟩:=h4.keys x hx;have YA:=(show ∀j,has j=true->_ from c2) m q2;refine⟨m,q1,q2,u,?_,q4⟩;generalize hq:Vl nm σ (g m) _=q at YA;cases q with
    | none=>exact YA.elim
    | some q=>exact aE (mz nm σ ρ) _ _ (gR hi (g m) _ q hq YA ρ.zo u q3)
   cases h
  cases h
 | lay cs t=>
  simp only[Ax] at h;split at h;split at h;rename_i hb;have hb:=Nb hb;subst hb;obtain⟨b,vs,h1,h2,h3,h4,h5⟩:=hd;exact⟨b,vs,pK hn h1,gR hi cs _ q h hc ρ vs h2,h3,h4,h5⟩;cases h;cases h
 | lst e sz N f t=>
  simp only[Ax] at h;split at h
  ·split at h
   ·rename_i he hs;obtain⟨hb,rfl⟩:=fE h;have hb:=Nb hb;have hs:=Nb hs;obtain⟨c1,c2⟩:=cX hc;subst hb hs c1;obtain⟨m2,rfl⟩:=eR he;obtain⟨l,h1,h2,h3,h4,h5⟩:=hd;refine⟨_,tu hi m2 hn h1 h2,rfl,h3,h4,λVG=>?_⟩;obtain⟨b,u,k1,k2,k3,k4,k5,k6⟩:=h5 VG;refine⟨b,u,k1,k2,k3,k4,k5,λi VT=>?_⟩;obtain⟨us,q1,q2⟩:=k6 i VT;have YA:=(show ∀i,i<N->_ from c2) i VT;refine⟨us,?_,q2⟩;generalize hq:Vl nm σ (f i) _=q at YA;cases q with
    | none=>exact YA.elim
    | some q=>exact aE (mz nm σ ρ) _ _ (gR hi (f i) _ q hq YA ρ.zo us q1)
   cases h
  cases h
 | nst e sz N f p Vb g tk t last=>
  simp only[Ax] at h;split at h;split at h;rename_i ZL hl2 he hs hp hsk V6;obtain⟨hb,rfl⟩:=fE h;have hb:=Nb hb;have hs:=Nb hs;have hp:=Nb hp;have hsk:=Nb hsk;have V6:=Nb V6;obtain⟨c1,c2⟩:=cX hc;obtain⟨c2,c3⟩:=cX c2;obtain⟨c3,c4⟩:=cX c3;subst hb hs hp hsk V6;obtain⟨m2,rfl⟩:=eR he;exact O2 hi hn m2 c1 c2 c3 c4 hd;cases h;cases h
theorem pv{σ:List (Nat×Nat)}{m:Nat} : ∀{k:Nat},wM σ m k=true->∀i,i<k->WM σ i≠WM σ m
 | 0,_,i,hi=>by omega
 | k+1,h,i,hi=>by simp only[wM] at h;split at h;cases h;rename_i hb;rcases UD (Nat.le_of_lt_succ hi) with rfl|hi;intro e;rw[e,UG] at hb;cases hb;exact pv h i hi
theorem C7{σ:List (Nat×Nat)} : ∀{k:Nat},Mh σ k=true->∀i j,i<k->j<k->WM σ i=WM σ j->i=j
 | 0,_,i,j,hi,_,_=>by omega
 | k+1,h,i,j,hi,hj,e=>by simp only[Mh] at h;split at h;rename_i hf;rcases UD (Nat.le_of_lt_succ hi) with rfl|hi;rcases UD (Nat.le_of_lt_succ hj) with rfl|hj;rfl;exact Up e.symm (pv hf j hj);rcases UD (Nat.le_of_lt_succ hj) with rfl|hj;exact Up e (pv hf i hi);exact C7 h i j hi hj e;cases h
theorem Dj{σ:List (Nat×Nat)} : ∀{k:Nat},Mv σ k=true->∀i,i<k->WM σ i=i
 | 0,_,i,hi=>by omega
 | k+1,h,i,hi=>by simp only[Mv] at h;split at h;rename_i hb;rcases UD (Nat.le_of_lt_succ hi) with rfl|hi;exact Nb hb;exact Dj h i hi;cases h
theorem AQ{rg:Nat} : ∀{l:List (Nat×Slot)},rgB rg l=true->∀t s,look l t=some s->s.rg<=rg
 | [],_,t,s,h=>by cases h
 | (u,x)::r,h,t,s,hs=>by simp only[rgB] at h;split at h;rename_i hb;by_cases e:u=t;subst e;rw[af] at hs;obtain rfl:=Oi hs;exact L' hb;rw[ab _ _ e] at hs;exact AQ h t s hs;cases h
section
variable {PP:Program}{C:Cx PP}{Γ:List (UO C)}{nt:Nat}{w0:World}{UM:Names}{I:Ya}{inls:List Nat}
def KC{PP:Program}(C:Cx PP)(nt:Nat)(w0:World)(UM:Names)(c:Code)(st:St)(K:Ex->St->Prop):Prop:=
 ∀ρ a W,Rp C nt w0 UM st ρ a W->wpR C.P C.co c (λe a' W'=>∃x UZ UL,e=Ex.to x∧K x UZ∧Rp C nt w0 UM UZ UL a' W') a W
theorem fY{st:St}{ρ:Names}{a:Act}{W:World}(h:Rp C nt w0 UM st ρ a W){x:Operand}{v:SV}(e:qd st.sl x=some v):den ρ v (a.eval x):=by rw[EJ] at e;split at e;obtain rfl:=Oi e;exact jk;obtain rfl:=Oi e;rfl;obtain rfl:=Oi e;rfl;split at e;cases e;rename_i s hs;split at e;rename_i hg;obtain rfl:=Oi e;obtain⟨y,h1,h2⟩:=h.cA _ s hs hg;rw[aU h2];exact h1;cases e
theorem Ge.rp{nm0:Nat}{σ:List (Nat×Nat)}{st UZ:St}{ρ:Names}{a:Act}{W:World}(Vf:∀n b,UM.n n=some b->n<nm0)(US:∀e l,UM.v e=some l->e<nm0∧l.o<nm0)(UT:∀m i l,UM.k m i=some l->m<nm0)(h:Ge nm0 σ UZ st)(hr:Rp C nt w0 UM st ρ a W):Rp C nt w0 UM UZ (iq UZ.nm σ ρ) a W:=by
 unfold Ge at h;split at h
 rotate_left
 exact h.elim;rename_i h1;generalize hq:m7 _ _=q at h;cases q with
 | none=>exact h.elim
 | some q=>
 obtain⟨l1,l2,h2,h3,rfl⟩:=dX hq;obtain⟨d1,d2⟩:=bV h;unfold JA at h1;split at h1;rename_i c1 c2 c3 c4;have c1:=L' c1;have c2:BZ UZ.nm σ:=C7 c2;have c3:=Dj c3;have c4:=AQ c4;have hm:=hr.base.mem;refine⟨⟨⟨⟨λn n' b k1 k2=>?_,λn b k=>hm.hb.low _ b (mA k).2,hm.hb.zok,hm.hb.grd⟩,λn b k=>(gO k).1,λe l k=>⟨(fP k).1,(fP k).2.1⟩,λm i l k=>(dt k).1,⟨λn b k=>?_,λe l k=>?_,λm i l k=>?_,hm.le.z⟩,λn b k=>?_,hm.zold,hm.keep⟩,λn sb hn=>?_,hr.base.sz,hr.base.df⟩,c4,λt s hs hg=>?_⟩;obtain⟨q1,q2⟩:=mA k1;obtain⟨q3,q4⟩:=mA k2;exact c2 n n' q1 q3 (hm.hb.own _ _ b q2 q4);have:=Vf n b k;exact pK (by omega) (by rw[c3 n this];exact hm.le.n n b k);obtain⟨q1,q2⟩:=US e l k;have:=tu (nm:=UZ.nm) (σ:=σ) (ρ:=ρ) (e:=e) (m:=l.o) (l:=l) c2 (by omega) (by omega) (by rw[c3 e q1];exact hm.le.v e l k) (by rw[c3 _ q2]);exact this;have:=UT m i l k;exact tv (by omega) (by rw[c3 m this];exact hm.le.k m i l k);exact hm.old _ b (mA k).2;obtain⟨k1,sb2,q,k2,k3,k4⟩:=G3 h3 d2 n sb hn;exact K5 c2 k1 k3 k4 (hr.base.blk _ sb2 k2);obtain⟨s2,q,k1,k2,k3,k4⟩:=Cc h2 d1 t s hs;obtain⟨x,k5,k6⟩:=hr.cA t s2 k1 k2;exact⟨x,xx c2 _ _ q k3 k4 ρ x k5,k6⟩;cases h1
theorem xO{l:List Value}{i:Nat}{y:Value}(h:l[i]? = some y):l.set i y=l:=by apply List.ext_getElem?;intro j;by_cases e:i=j;subst e;rw[List.getElem?_set_self (J'.1 h).1,h];rw[List.getElem?_set_ne e]
theorem pD{v:SV}{ρ:Names}{y:Value}(h:td v=true)(hd:den ρ v y):∃a,y=.slice a 0 0:=by unfold td at h;split at h;exact hd;exact⟨_,hd⟩;cases h
theorem nJ{m:Nat}{sb:SB}{t:Nat} : ∀{l:List (Nat×Slot)},look (yR m sb l) t=(look l t).map λs=>⟨s.rg,s.k,s.g,ue m sb s.v⟩
 | []=>rfl
 | (u,s)::r=>by by_cases he:u=t;subst he;simp only[yR,af];rfl;simp only[yR,ab _ _ he];exact nJ
theorem uZ{m:Nat}{sb:SB}{t:Nat} : ∀{l:aY},look (I4 m sb l) t=(look l t).map λs=>OE m sb s
 | []=>rfl
 | (u,s)::r=>by by_cases he:u=t;subst he;simp only[I4,af];rfl;simp only[I4,ab _ _ he];exact uZ
def EH(ρ:Names)(W:World)(m:Nat):Nat->Nat->Value->Prop:=λb i c=>bT ρ m b∧W.cell? ⟨b,i,none⟩=some c∧c.oneCell'=true
theorem m6{ρ:Names}{W:World}{n e sz N p Vb:Nat}{h:Nat->List SV}{g:Nat->Nat×(Nat->List SV)}{tk t:TypeId}{last:Option (List SV)}{Z:Nat->Nat->Value->Prop}(hc:cS ρ W n (.nst e sz N h p Vb g tk t last))(hz:∀b i c,bT ρ n b->¬Z b i c):cS (ρ.jW Z) W n (.nst e sz N h p Vb g tk t last):=by
 obtain⟨l,K⟩:=hc;refine⟨l,K.hv,K.ho,K.hN,K.hle,λVG=>?_,λi hi=>?_,K.no,K.ne⟩
 ·obtain⟨b,u,k1,k2,k3,k4,k5,k6,k7,k8⟩:=K.row VG;exact⟨b,u,k1,k2,k3,k4,λi c V5=>by
   rcases V5 with V5|V5;exact k5 i c V5
   ·exact hz b i c (.inr (.inl ⟨e,l,0,K.hv,K.ho,VG,k1⟩)) V5,λi hi=>let ⟨q,us,q1,q2,q3⟩:=k6 i hi;⟨q,us,q1,aE (Names.le.zo Names.bp) _ _ q2,q3⟩,λcs Xm=>let ⟨us,q1,q2⟩:=k7 cs Xm;⟨us,aE Names.bp _ _ q1,q2⟩,k8⟩
 obtain⟨q,q1,q2,q3,q4⟩:=K.kid i hi;refine⟨q,q1,q2,q3,λVG=>?_⟩;obtain⟨b,u,k1,k2,k3,k4,k5,k6⟩:=q4 VG;exact⟨b,u,k1,k2,k3,k4,λi' c V5=>by
  rcases V5 with V5|V5;exact k5 i' c V5
  ·exact hz b i' c (.inr (.inr ⟨i,q,0,q1,VG,k1⟩)) V5,λi hi=>let ⟨us,q1,q2⟩:=k6 i hi;⟨us,aE (Names.le.zo Names.bp) _ _ q1,q2⟩⟩
mutual
theorem Dc{H:aY}{ρ:Names}{W:World}{m:Nat}{sb:SB}(hH:VQ C H ρ W)(hk:look H m=some sb)(hp:I3 sb=true):∀(x:SV) (v:Value),den ρ x v->den (ρ.jW (EH ρ W m)) (ue m sb x) v
 | .v _,_,hd=>hd
 | .il _ _,_,hd=>hd
 | .bl _,_,hd=>hd
 | .e,_,hd=>hd
 | .m n,v,hd=>bE (ρ:=ρ) Names.bp (.m n) v hd
 | .rs sz n f,v,hd=>bE (ρ:=ρ) Names.bp (.rs sz n f) v hd
 | .rp x off,v,hd=>bE (ρ:=ρ) Names.bp (.rp x off) v hd
 | .agg l,v,⟨u,e1,e2⟩=>⟨u,mq hH hk hp l u e1,e2⟩
 | .tup l,v,⟨u,e1,e2⟩=>⟨u,mq hH hk hp l u e1,e2⟩
 | .f fn x y,v,⟨u,w,e1,e2,e3⟩=>⟨u,w,mq hH hk hp x u e1,mq hH hk hp y w e2,e3⟩
 | .p n off,v,hd=>by have hold:den (ρ.jW (EH ρ W m)) (.p n off) v:=hd;simp only[ue];unfold SG;split;rename_i cs t b1;have b1:=Nb b1;subst b1;obtain⟨b,e1,e2⟩:=hd;obtain⟨b',vs,k1,k2,k3,k4,k5⟩:=hH.blk n _ hk;rw[e1] at k1;obtain rfl:=Oi k1;exact⟨b,0,vs,by rw[B'];exact e2,aE (Names.le.zo Names.bp) _ _ (cu _ _ hp k2),λk c hc=>.inr ⟨.inl e1,by rw[B',k3.cell];simpa using hc,k4 c (UF hc)⟩⟩;exact hold
 | .s n sz off len cap,v,hd=>by have hold:den (ρ.jW (EH ρ W m)) (.s n sz off len cap) v:=hd;simp only[ue];unfold SK;split;rename_i cs t b0;have b0:=Nb b0;subst b0;split;rename_i b1 b2;have b1:=L' b1;have b2:=L' b2;obtain⟨b,e1,e2⟩:=hd;obtain⟨b',vs,k1,k2,k3,k4,k5⟩:=hH.blk n _ hk;rw[e1] at k1;obtain rfl:=Oi k1;have hd:=aE (Names.le.zo Names.bp) _ _ (cu _ _ hp k2) (UL:=(ρ.jW (EH ρ W n)).zo);have hlen:=aB hd;refine⟨_,_,e2,b2,λi hi=>⟨b,off,_,rfl,iF sz i (bP off hd),?_,λk c hc=>?_⟩⟩;have:i*sz+sz<=len*sz:=(by rw[<-Nat.succ_mul];exact Uz _ hi);simp only[List.length_take,List.length_drop];omega;rw[List.getElem?_take] at hc;split at hc;rw[List.getElem?_drop,List.getElem?_drop] at hc;refine .inr ⟨.inl e1,?_,k4 c (UF hc)⟩;rw[k3.cell];simpa[Nat.add_assoc] using hc;cases hc;exact hold;exact hold
 | .g m' e' U9 off n,v,hd=>by simp only[ue];unfold SI;split;rename_i e sz N h t b1;have b1:=Nb b1;subst b1;split;rename_i b2 b3;have b2:=Nb b2;have b3:=Nb b3;subst b2 b3;obtain⟨a',cap,e1,e2,e3⟩:=mi hH hk hd;exact⟨a',cap,e1,e2,λi hi=>let ⟨b,o,us,k1,k2,k3,k4,k5⟩:=e3 i hi;⟨b,o,us,k1,aE (Names.le.zo Names.bp) _ _ k2,k3,λk c hc=>.inr ⟨k5,k4 k c hc⟩⟩⟩;exact bE Names.bp _ _ hd;rename_i e sz N h p Vb g tk t b1;have b1:=Nb b1;subst b1;split;rename_i b2 b3;have b2:=Nb b2;have b3:=Nb b3;subst b2 b3;obtain⟨a',cap,e1,e2,e3⟩:=o7 hH hk hd;exact⟨a',cap,e1,e2,λi hi=>let ⟨b,o,us,q,k1,f1,f2,f3,k2,k3,k4,k5⟩:=e3 i hi;⟨b,o,us,k1,v8 f1 f2 f3 (λb i c h1 h2 h3=>.inr ⟨h3,h1,h2⟩) (Names.le.zo Names.bp) k2,k3,λk c hc=>.inr ⟨k5,k4 k c hc⟩⟩⟩;exact bE Names.bp _ _ hd;exact bE Names.bp _ _ hd
 | .gp m' e' U9 i off,v,hd=>by simp only[ue];unfold OF;split;rename_i e sz N h t b1;have b1:=Nb b1;subst b1;split;rename_i b2 b3;have b2:=Nb b2;have b3:=Nb b3;subst b2 b3;obtain⟨b,us,e1,e2,e3,e4,e5⟩:=wz hH hk hd;exact⟨b,i*U9,us,e1,aE (Names.le.zo Names.bp) _ _ e2,λk c hc=>.inr ⟨e5,e4 k c hc⟩⟩;exact bE Names.bp _ _ hd;rename_i e sz N h p Vb g tk t b1;have b1:=Nb b1;subst b1;split;rename_i b2 b3;have b2:=Nb b2;have b3:=Nb b3;subst b2 b3;obtain⟨b,us,q,e1,f1,f2,f3,e2,e3,e4,e5⟩:=v7 hH hk hd;exact⟨b,i*U9,us,e1,v8 f1 f2 f3 (λb i c h1 h2 h3=>.inr ⟨h3,h1,h2⟩) (Names.le.zo Names.bp) e2,λk c hc=>.inr ⟨e5,e4 k c hc⟩⟩;exact bE Names.bp _ _ hd;exact bE Names.bp _ _ hd
 | .kd m' i U9 off n,v,hd=>by simp only[ue];unfold SH;split;rename_i e sz N h p Vb g tk t b1;have b1:=Nb b1;subst b1;split;rename_i b2;have b2:=Nb b2;subst b2;obtain⟨a',cap,e1,e2,e3⟩:=pe hH hk hd;exact⟨a',cap,e1,e2,λi hi=>let ⟨b,o,us,k1,k2,k3,k4,k5⟩:=e3 i hi;⟨b,o,us,k1,aE (Names.le.zo Names.bp) _ _ k2,k3,λk c hc=>.inr ⟨k5,k4 k c hc⟩⟩⟩;exact bE Names.bp _ _ hd;exact bE Names.bp _ _ hd
 | .kq m' i U9 j off,v,hd=>by simp only[ue];unfold SF;split;rename_i e sz N h p Vb g tk t b1;have b1:=Nb b1;subst b1;split;rename_i b2;have b2:=Nb b2;subst b2;obtain⟨b,us,e1,f1,f2,e2,e3,e4,e5⟩:=wD hH hk hd;exact⟨b,j*U9,us,e1,aE (Names.le.zo Names.bp) _ _ e2,λk c hc=>.inr ⟨e5,e4 k c hc⟩⟩;exact bE Names.bp _ _ hd;exact bE Names.bp _ _ hd
theorem mq{H:aY}{ρ:Names}{W:World}{m:Nat}{sb:SB}(hH:VQ C H ρ W)(hk:look H m=some sb)(hp:I3 sb=true):∀(x:List SV) (v:List Value),aj ρ x v->aj (ρ.jW (EH ρ W m)) (Bp m sb x) v
 | [],_,hd=>hd
 | x::r,v,⟨a,b,e1,e2,e3⟩=>⟨a,b,e1,Dc hH hk hp x a e2,mq hH hk hp r b e3⟩
end
def Names.bq(ρ:Names)(M N m1:Nat)(q:LV):Names:=
 ⟨λn=>if n=m1 then none else ρ.n n,
 λe=>match ρ.v e with|some l=>if l.o=m1 then none else some l|none=>none,
 λm i=>if m=M∧i=N then some q else if m=m1 then none else ρ.k m i,
 ρ.z,ρ.d,ρ.o⟩
section
variable {ρ:Names}{M N m1:Nat}{q:LV}
theorem jY{n b:Nat}(hn:n≠m1)(h:ρ.n n=some b):(ρ.bq M N m1 q).n n=some b:=by simp only[Names.bq,Uv hn,h]
theorem jX{e:Nat}{l:LV}(hn:l.o≠m1)(h:ρ.v e=some l):(ρ.bq M N m1 q).v e=some l:=by simp only[Names.bq,h,Uv hn]
theorem l9{m i:Nat}(hn:m≠m1)(hi:¬(m=M∧i=N)):(ρ.bq M N m1 q).k m i=ρ.k m i:=by simp only[Names.bq,Uv hn,Uv hi]
theorem tM:(ρ.bq M N m1 q).k M N=some q:=by simp only[Names.bq,and_self,if_true]
theorem na{n b:Nat}(h:(ρ.bq M N m1 q).n n=some b):n≠m1∧ρ.n n=some b:=by simp only[Names.bq] at h;split at h;cases h;rename_i hn;exact⟨hn,h⟩
theorem m9{e:Nat}{l:LV}(h:(ρ.bq M N m1 q).v e=some l):l.o≠m1∧ρ.v e=some l:=by simp only[Names.bq] at h;split at h;rename_i l' hl;split at h;cases h;rename_i hn;obtain rfl:=Oi h;exact⟨hn,hl⟩;cases h
theorem fG{m i:Nat}{l:LV}(h:(ρ.bq M N m1 q).k m i=some l):(m=M∧i=N∧l=q)∨(m≠m1∧ρ.k m i=some l):=by simp only[Names.bq] at h;split at h;rename_i hm;exact .inl ⟨hm.1,hm.2,(Oi h).symm⟩;split at h;cases h;rename_i hn;exact .inr ⟨hn,h⟩
theorem jm{n b:Nat}(h:bT (ρ.bq M N m1 q) n b):(n≠m1∧bT ρ n b)∨(n=M∧q.cap≠0∧∃o,q.a=some ⟨b,o,none⟩):=by
 rcases h with h|⟨e,l,o,h1,h2,h3,h4⟩|⟨i,l,o,h1,h3,h4⟩
 obtain⟨k1,k2⟩:=na h;exact .inl ⟨k1,.inl k2⟩;obtain⟨k1,k2⟩:=m9 h1;exact .inl ⟨by rw[<-h2];exact k1,.inr (.inl ⟨e,l,o,k2,h2,h3,h4⟩)⟩;rcases fG h1 with ⟨rfl,rfl,rfl⟩|⟨k1,k2⟩
 exact .inr ⟨rfl,h3,o,h4⟩;exact .inl ⟨k1,.inr (.inr ⟨i,l,o,k2,h3,h4⟩)⟩
theorem qT{n:Nat} : ∀{l:List Nat},qB n l=false->n ∉ l
 | [],_,h=>by cases h
 | m::r,h,hm=>by simp only[qB] at h;split at h;cases h;rename_i hb;rcases UB.1 hm with rfl|hm;rw[UG] at hb;cases hb;exact qT h hm
mutual
theorem tn(hM:ρ.k M N=none):∀(x:SV) (v:Value),m1 ∉ dH x->den ρ x v->den (ρ.bq M N m1 q) x v
 | .v _,_,_,hd=>hd
 | .il _ _,_,_,hd=>hd
 | .bl _,_,_,hd=>hd
 | .e,_,_,hd=>hd
 | .rs _ _ _,_,_,hd=>hd
 | .rp _ _,_,_,hd=>hd
 | .p n off,v,hn,⟨b,e1,e2⟩=>⟨b,jY (by simpa[dH,eq_comm] using hn) e1,e2⟩
 | .s n sz off len cap,v,hn,⟨b,e1,e2⟩=>⟨b,jY (by simpa[dH,eq_comm] using hn) e1,e2⟩
 | .m n,v,hn,⟨b,e1,e2⟩=>⟨b,jY (by simpa[dH,eq_comm] using hn) e1,e2⟩
 | .g m e sz off n,v,hn,⟨l,e1,e2,e3⟩=>⟨l,jX (by rw[e2];simpa[dH,eq_comm] using hn) e1,e2,e3⟩
 | .gp m e sz i off,v,hn,⟨l,b,e1,e2,e3⟩=>⟨l,b,jX (by rw[e2];simpa[dH,eq_comm] using hn) e1,e2,e3⟩
 | .kd m i sz off n,v,hn,⟨l,e1,e3⟩=>⟨l,(l9 (by simpa[dH,eq_comm] using hn) (by rintro⟨rfl,rfl⟩;rw[hM] at e1;cases e1)).trans e1,e3⟩
 | .kq m i sz j off,v,hn,⟨l,b,e1,e3⟩=>⟨l,b,(l9 (by simpa[dH,eq_comm] using hn) (by rintro⟨rfl,rfl⟩;rw[hM] at e1;cases e1)).trans e1,e3⟩
 | .f fn x y,v,hn,⟨u,w,h1,h2,h3⟩=>⟨u,w,eU hM x u (λh=>hn (List.mem_append_left _ h)) h1,eU hM y w (λh=>hn (List.mem_append_right _ h)) h2,h3⟩
 | .agg l,v,hn,⟨u,h1,h2⟩=>⟨u,eU hM l u hn h1,h2⟩
 | .tup l,v,hn,⟨u,h1,h2⟩=>⟨u,eU hM l u hn h1,h2⟩
theorem eU(hM:ρ.k M N=none):∀(x:List SV) (v:List Value),m1 ∉ gA x->aj ρ x v->aj (ρ.bq M N m1 q) x v
 | [],_,_,hd=>hd
 | x::r,v,hn,⟨u,w,h1,h2,h3⟩=>⟨u,w,h1,tn hM x u (λh=>hn (List.mem_append_left _ h)) h2,eU hM r w (λh=>hn (List.mem_append_right _ h)) h3⟩
end
theorem lW{m t:Nat} : ∀{l:List (Nat×Slot)},look (pF m l) t=(look l t).map λs=>match qB m (dH s.v) with|true=>⟨s.rg,s.k,[(0,true)],.e⟩|false=>s
 | []=>rfl
 | (u,s)::r=>by simp only[pF];by_cases he:u=t;subst he;split<;>rename_i hb<;>rw[af,af]<;>simp only[Option.map_some,hb];split<;>rw[ab _ _ he,ab _ _ he]<;>exact lW
theorem tg{m t:Nat} : ∀{l:aY},look (ve m l) t=(look l t).map (te m)
 | []=>rfl
 | (u,s)::r=>by by_cases he:u=t;subst he;simp only[ve,af];rfl;simp only[ve,ab _ _ he];exact tg
theorem zx(hM:ρ.k M N=none){W:World}{n:Nat}{sb:SB}(hn:n≠m1)(hnM:n≠M)(hc:cS ρ W n sb):cS (ρ.bq M N m1 q) W n (te m1 sb):=by
 have hk:∀i,(ρ.bq M N m1 q).k n i=ρ.k n i:=λi=>l9 hn λh=>hnM h.1;cases sb with
 | gone=>trivial
 | lay cs t=>
  simp only[te];split;trivial;rename_i hb;obtain⟨b,vs,h1,h2,h3,h4,h5⟩:=hc;exact⟨b,vs,jY hn h1,eU hM _ _ (qT hb) h2,h3,h4,h5⟩
 | lst e sz N f t=>
  obtain⟨l,h1,h2,h3,h4,h5⟩:=hc;exact⟨l,jX (by rw[h2];exact hn) h1,h2,h3,h4,h5⟩
 | mp k ag has g=>
  obtain⟨b,es,cl,h1,h2,h3,h4⟩:=hc;exact⟨b,es,cl,jY hn h1,h2,h3,h4.keys,h4.yes⟩
 | nst e sz N' f p Vb g tk t last=>
  have key:∀XX:Option (List SV),(∀cs,XX=some cs->m1 ∉ gA cs)->XX=last->cS (ρ.bq M N m1 q) W n (.nst e sz N' f p Vb g tk t XX):=(by intro XX hl e';subst e';obtain⟨l,K⟩:=hc;refine⟨l,jX (by rw[K.ho];exact hn) K.hv,K.ho,K.hN,K.hle,λVG=>?_,λi hi=>?_,λi hi=>(hk i).trans (K.no i hi),λi j q r b h1 h2=>K.ne i j q r b ((hk i).symm.trans h1) ((hk j).symm.trans h2)⟩;obtain⟨b,u,k1,k2,k3,k4,k5,k6,k7,k8⟩:=K.row VG;exact⟨b,u,k1,k2,k3,k4,k5,λi hi=>let ⟨q,us,q1,q2⟩:=k6 i hi;⟨q,us,(hk i).trans q1,q2⟩,λcs Xm=>let ⟨us,q1,q2⟩:=k7 cs Xm;⟨us,eU hM _ _ (hl cs Xm) q1,q2⟩,λi q b' h1=>k8 i q b' ((hk i).symm.trans h1)⟩;obtain⟨q,q1,q2⟩:=K.kid i hi;exact⟨q,(hk i).trans q1,q2⟩);simp only[te];split;exact key none (λcs h=>by cases h) rfl;split;trivial;rename_i cs _ hb;exact key (some cs) (λX' h=>by obtain rfl:=Oi h;exact qT hb) rfl
theorem xX{x:SV}{z:Value} : ∀{l:List SV} {p:Nat} {us:List Value},l[p]? = some x->us[p]? = some z->da (l.set p .e)=true->aj ρ l us->aj ρ.zo (l.set p (.v z)) us
 | [],p,us,h,_,_,_=>by cases h
 | y::r,0,us,h,hu,hp,hd=>by obtain⟨a,b,rfl,h1,h2⟩:=aJ hd;simp only[List.set_cons_zero,da,lF] at hp;obtain rfl:a=z:=(by simpa using hu);exact⟨a,b,rfl,rfl,cu _ _ hp h2⟩
 | y::r,p+1,us,h,hu,hp,hd=>by obtain⟨a,b,rfl,h1,h2⟩:=aJ hd;simp only[List.set_cons_succ,da] at hp;split at hp;rename_i hy;exact⟨a,b,rfl,lE _ _ hy h1,xX (x:=x) (by simpa using h) (by simpa using hu) hp h2⟩;cases hp
theorem qP{α:Type}{N:Nat}{x:α}{f:Nat->α} : AV N x f N=x:=by simp only[AV,UG]
theorem qO{α:Type}{N i:Nat}{x:α}{f:Nat->α}(h:i≠N):AV N x f i=f i:=by unfold AV;split;rename_i hb;exact Up (Nb hb) h;rfl
end
theorem FL{nm0 M m1 nm rg:Nat}{H:aY}{sb:SB}{sl:List (Nat×Slot)}{rd ws:List (Nat×Nat)}{ρ:Names}{a:Act}{W:World}(Vf:∀n b,UM.n n=some b->n<nm0)(US:∀e l,UM.v e=some l->e<nm0∧l.o<nm0)(UT:∀m i l,UM.k m i=some l->m<nm0)
  (h:Rp C nt w0 UM ⟨sl,H,nm,rg,rd,ws⟩ ρ a W) (Wn:xk nm0 M H=some (m1,sb)):∃UL,Rp C nt w0 UM ⟨pF m1 sl,(M,sb)::(m1,.gone)::ve m1 H,nm,rg,rd,ws⟩ UL a W:=by
 unfold xk at Wn;split at Wn
 rotate_left
 cases Wn;rename_i e sz N hh p Vb g tk t cs hlM;split at Wn
 rotate_left
 cases Wn;rename_i mm e1 szk1 n1 hcp Z2;split at Wn
 rotate_left
 cases Wn;rename_i e1' szk1' N1 h1 t1 ZL;split at Wn
 rotate_left
 cases Wn;rename_i b1 b2 b3 b4 b5;have b1:=Nb b1;have b2:=Nb b2;have b3:=Nb b3;have b4:=Nb b4;have b5:=L' b5;obtain⟨rfl,rfl⟩:=P' (Oi Wn);subst b1 b2 b3 b4;have hm:=h.base.mem;have hMm:M≠mm:=by rintro rfl;rw[hlM] at ZL;cases ZL
 obtain⟨lM,K⟩:=h.base.blk M _ hlM;obtain⟨l1,q1,q2,q3,q4,q5⟩:=h.base.blk mm _ ZL;have VG:lM.cap≠0:=by have h1:=K.hN;have h2:=K.hle;have h3:lM.N=N+1:=h1;omega
 obtain⟨b,u,k1,k2,k3,k4,k5,k6,k7,k8⟩:=K.row VG;obtain⟨us,r1,r2,r3⟩:=k7 cs rfl;obtain⟨z,hz,hdz⟩:=ef r1 hcp;obtain⟨l1',s1,s2,s3,s4,a',V5,s6⟩:=hdz;rw[q1] at s1;obtain rfl:=Oi s1;simp only[Nat.sub_zero,B',Nat.zero_mul] at s3 V5 s6;have hMN:ρ.k M N=none:=K.no N (I' _);obtain⟨q,hq⟩:∃q:LV,q=⟨M,a',l1.cap,n1⟩:=⟨_,rfl⟩
 have hqa:q.a=a':=by rw[hq]
 have hqc:q.cap=l1.cap:=by rw[hq]
 have hqN:q.N=n1:=by rw[hq]
 have hqo:∀b2 o,q.cap≠0->q.a=some ⟨b2,o,none⟩->bT ρ mm b2:=λb2 o h1 h2=>by rw[hqc] at h1;obtain⟨b3,t1,t2⟩:=s6 h1;rw[hqa,t2] at h2;injection h2 with h2;injection h2 with h2;subst h2;exact .inr (.inl ⟨e1,l1,0,q1,q2,h1,t1⟩)
 have hMown:bT ρ M b:=.inr (.inl ⟨e,lM,0,K.hv,K.ho,VG,k1⟩);have hMo:lM.o≠mm:=by rw[K.ho];exact hMm
 have hkM:∀i,i≠N->(ρ.bq M N mm q).k M i=ρ.k M i:=λi hi=>l9 hMm λh=>hi h.2;have hMlt:M<nm:=by rw[<-K.ho];exact(hm.domv _ _ K.hv).2
 refine⟨ρ.bq M N mm q,⟨⟨⟨λn n' b2 o1 o2=>?_,λn b2 o1=>?_,hm.hb.zok,hm.hb.grd⟩,λn b2 hn=>hm.dom n b2 (na hn).2,λe2 l2 hl=>hm.domv e2 l2 (m9 hl).2,λm i l hl=>?_,⟨λn b2 hn=>?_,λe2 l2 hl=>?_,λm i l hl=>?_,hm.le.z⟩,λn b2 o1=>?_,hm.zold,hm.keep⟩,λn sb hn=>?_,h.base.sz,h.base.df⟩,λu s hs=>?_,λu s hs hg=>?_⟩
 ·rcases jm o1 with ⟨n1,w1⟩|⟨w1,c1,o,a1⟩<;>rcases jm o2 with ⟨n2,w2⟩|⟨w2,c2,o',a2⟩
  exact hm.hb.own n n' b2 w1 w2;exact Up (hm.hb.own _ _ b2 w1 (hqo b2 o' c2 a2)) n1;exact Up (hm.hb.own _ _ b2 w2 (hqo b2 o c1 a1)) n2;rw[w1,w2]
 ·rcases jm o1 with ⟨n1,o1⟩|⟨rfl,c1,o,a1⟩
  exact hm.hb.low n b2 o1;exact hm.hb.low _ b2 (hqo b2 o c1 a1)
 ·rcases fG hl with ⟨rfl,-,-⟩|⟨-,hl⟩
  exact hMlt;exact hm.domk m i l hl
 have:=Vf n b2 hn;exact jY (by omega) (hm.le.n n b2 hn);have:=(US e2 l2 hl).2;exact jX (by omega) (hm.le.v e2 l2 hl);have:=UT m i l hl;have h2:=hm.le.k m i l hl;rw[l9 (by omega) (by rintro⟨rfl,rfl⟩;rw[hMN] at h2;cases h2)];exact h2
 ·rcases jm o1 with ⟨n1,o1⟩|⟨rfl,c1,o,a1⟩
  exact hm.old n b2 o1;exact hm.old mm b2 (hqo b2 o c1 a1)
 ·by_cases eM:M=n
  ·subst eM;simp only[af] at hn;obtain rfl:=Oi hn;refine⟨lM,jX hMo K.hv,K.ho,K.hN,K.hle,λ_=>⟨b,u,k1,k2,k3,k4,k5,λi hi=>?_,(λcs h=>by cases h),λi q' b' hi h1 h2=>?_⟩,λi hi=>?_,λi hi=>?_,λi j q' r b2 hi hj c1 c2 a1 a2=>?_⟩;by_cases hiN:i=N;subst hiN;refine⟨q,us,tM,?_,r2,r3⟩;rw[qP];refine xX (ρ:=ρ) hcp ?_ Z2 r1;rw[hz,V5,hqa,hqN,hqc];obtain⟨q',ZV,t1,t2,t3⟩:=k6 i (by omega);exact⟨q',ZV,(hkM i hiN).trans t1,by rw[qO hiN];exact t2,t3⟩
   ·rcases fG hi with ⟨-,-,rfl⟩|⟨-,hi⟩
    rintro rfl;exact hMm (hm.hb.own _ _ b' hMown (hqo b' 0 h1 h2));exact k8 i q' b' hi h1 h2
   by_cases hiN:i=N;subst hiN;refine⟨q,tM,by rw[qP];exact hqN,by omega,λhc=>?_⟩;obtain⟨b2,u2,t1,t2,t3,t4,t5,t6⟩:=q5 (by omega);obtain⟨b3,v1,v2⟩:=s6 (by omega);rw[t1] at v1;obtain rfl:b2=b3:=(by injection v1 with v1;injection v1);rw[qP];exact⟨b2,u2,by rw[hqa];exact v2,t2,by rw[hqc];exact t3,t4,t5,λj hj=>t6 j (by omega)⟩;obtain⟨q',t1,t2,t3⟩:=K.kid i (by omega);exact⟨q',(hkM i hiN).trans t1,by rw[qO hiN];exact t2,by rw[qO hiN];exact t3⟩;rw[hkM i (by omega)];exact K.no i (by omega);rcases fG hi with ⟨-,e1,w1⟩|⟨-,w1⟩<;>rcases fG hj with ⟨-,e2,w2⟩|⟨-,w2⟩
   rw[e1,e2];rw[w1] at c1 a1;exact Up (hm.hb.own _ _ b2 (.inr (.inr ⟨j,r,0,w2,c2,a2⟩)) (hqo b2 0 c1 a1)) hMm;rw[w2] at c2 a2;exact Up (hm.hb.own _ _ b2 (.inr (.inr ⟨i,q',0,w1,c1,a1⟩)) (hqo b2 0 c2 a2)) hMm;exact K.ne i j q' r b2 w1 w2 c1 c2 a1 a2
  simp only[ab _ _ eM] at hn;by_cases em:mm=n;subst em;simp only[af] at hn;obtain rfl:=Oi hn;trivial;simp only[ab _ _ em,tg] at hn;cases hl:look H n with
  | none=>rw[hl] at hn;cases hn
  | some sb0=>
   rw[hl] at hn;obtain rfl:=Oi hn;exact zx hMN (λe=>em e.symm) (λe=>eM e.symm) (h.base.blk n sb0 hl)
 ·rw[lW] at hs;cases WW:look sl u with
  | none=>rw[WW] at hs;cases hs
  | some s0=>
   rw[WW] at hs;simp only[Option.map_some] at hs;have h0:=h.rgs u s0 WW;split at hs;obtain rfl:=Oi hs;exact h0;obtain rfl:=Oi hs;exact h0
 rw[lW] at hs;cases WW:look sl u with
 | none=>rw[WW] at hs;cases hs
 | some s0=>
  rw[WW] at hs;simp only[Option.map_some] at hs;split at hs;obtain rfl:=Oi hs;cases hg;rename_i hb;obtain rfl:=Oi hs;obtain⟨x,t1,t2⟩:=h.cA u s0 WW hg;exact⟨x,tn hMN _ _ (qT hb) t1,t2⟩
theorem O6{nm0:Nat}{t:Tr}{st:St}{ρ:Names}{a:Act}{W:World}(Vf:∀n b,UM.n n=some b->n<nm0)(US:∀e l,UM.v e=some l->e<nm0∧l.o<nm0)(UT:∀m i l,UM.k m i=some l->m<nm0)(h:Rp C nt w0 UM st ρ a W):∃UL,Rp C nt w0 UM (tr1 nm0 t st) UL a W:=by
 obtain⟨sl,H,nm,rg,rd,ws⟩:=st;have Yp:=h.base.mem.free;have hbirth:∀(ad:Option Addr) (sz:Nat) (ty:TypeId),∃UL,ρ.le UL∧(∀y,y=Value.slice ad 0 0->den UL (.g nm nm sz 0 0) y)∧Base C nt w0 UM ((nm,.lst nm sz 0 (λ_=>[]) ty)::H) (nm+1) UL a W:=by
  intro ad sz ty;have e:=eT (l:=⟨nm,ad,0,0⟩) h.base.mem.hb Yp.2 (Gr.refl W) (λh=>Up rfl h);refine⟨ρ.fT nm ⟨nm,ad,0,0⟩,Names.ik Yp.2,λy hy=>⟨_,Names.aN,rfl,I' _,I' _,ad,hy,λh=>Up rfl h⟩,?_⟩;have:=h.base.done (w:=some (nm,.lst nm sz 0 (λ_=>[]) ty)) (fr:=true) (dst:=none) (x:=undef) (UL:=ρ.fT nm ⟨nm,ad,0,0⟩) (W':=W) e (λn sb hn=>by
   obtain⟨rfl,rfl⟩:=P' (Oi hn);exact⟨_,Names.aN,rfl,rfl,I' _,λh=>Up rfl h⟩) (λn sb hn=>by
   obtain⟨rfl,rfl⟩:=P' (Oi hn);exact Nat.lt_succ_self _)
  exact this
 have ZO:∀(ad:Option Addr) (sz:Nat) (ty:TypeId),∃UL,ρ.le UL∧(∀y,y=Value.slice ad 0 0->den UL (.g nm (nm+1) sz 0 0) y)∧Base C nt w0 UM ((nm,.lst (nm+1) sz 0 (λ_=>[]) ty)::H) (nm+2) UL a W:=by
  intro ad sz ty;have VD:Base C nt w0 UM H (nm+1) ρ a W:=⟨h.base.mem.up (Nat.le_succ _),h.base.blk,h.base.sz,h.base.df⟩
  have X2:=VD.mem.free;have e:=eT (nm:=nm+1) (l:=⟨nm,ad,0,0⟩) VD.mem.hb X2.2 (Gr.refl W) (λh=>Up rfl h);refine⟨ρ.fT (nm+1) ⟨nm,ad,0,0⟩,Names.ik X2.2,λy hy=>⟨_,Names.aN,rfl,I' _,I' _,ad,hy,λh=>Up rfl h⟩,?_⟩;have:=VD.done (w:=some (nm,.lst (nm+1) sz 0 (λ_=>[]) ty)) (fr:=true) (dst:=none) (x:=undef) (UL:=ρ.fT (nm+1) ⟨nm,ad,0,0⟩) (W':=W) e (λn sb hn=>by
   obtain⟨rfl,rfl⟩:=P' (Oi hn);exact⟨_,Names.aN,rfl,rfl,I' _,λh=>Up rfl h⟩) (λn sb hn=>by
   obtain⟨rfl,rfl⟩:=P' (Oi hn);show nm<nm+2;omega)
  exact this
 have hbirthN:∀(ad:Option Addr) (sz p Vb:Nat) (tk ty:TypeId),∃UL,ρ.le UL∧(∀y,y=Value.slice ad 0 0->den UL (.g nm (nm+1) sz 0 0) y)∧Base C nt w0 UM ((nm,.nst (nm+1) sz 0 (λ_=>[]) p Vb (λ_=>(0,λ_=>[])) tk ty none)::H) (nm+2) UL a W:=by
  intro ad sz p Vb tk ty;have VD:Base C nt w0 UM H (nm+1) ρ a W:=⟨h.base.mem.up (Nat.le_succ _),h.base.blk,h.base.sz,h.base.df⟩
  have X2:=VD.mem.free;have Ye:∀i,ρ.k nm i=none:=λi=>by
   cases hk:ρ.k nm i with
   | none=>rfl
   | some l=>
    have:nm<nm:=h.base.mem.domk nm i l hk;omega
  have e:=eT (nm:=nm+1) (l:=⟨nm,ad,0,0⟩) VD.mem.hb X2.2 (Gr.refl W) (λh=>Up rfl h);refine⟨ρ.fT (nm+1) ⟨nm,ad,0,0⟩,Names.ik X2.2,λy hy=>⟨_,Names.aN,rfl,I' _,I' _,ad,hy,λh=>Up rfl h⟩,?_⟩;have:=VD.done (w:=some (nm,.nst (nm+1) sz 0 (λ_=>[]) p Vb (λ_=>(0,λ_=>[])) tk ty none)) (fr:=true) (dst:=none) (x:=undef) (UL:=ρ.fT (nm+1) ⟨nm,ad,0,0⟩) (W':=W) e (λn sb hn=>by
   obtain⟨rfl,rfl⟩:=P' (Oi hn);exact⟨_,Names.aN,rfl,rfl,I' _,λh=>Up rfl h,λi hi=>Up hi (F' i),λi _=>Ye i,λi j q r b h1=>by have h1:ρ.k nm i=some q:=h1;rw[Ye i] at h1;cases h1⟩) (λn sb hn=>by
   obtain⟨rfl,rfl⟩:=P' (Oi hn);show nm<nm+2;omega)
  exact this
 cases t with
 | freeze m=>
  simp only[tr1];split
  ·rename_i sb0 hl;split
   rotate_left
   exact⟨ρ,h⟩;rename_i hp;have hH:=h.base.Vg;have hm:=h.base.mem;refine⟨ρ.jW (EH ρ W m),⟨⟨⟨hm.hb.own,hm.hb.low,λb i c hz=>?_,hm.hb.grd⟩,hm.dom,hm.domv,hm.domk,hm.le.trans Names.bp,hm.old,λb i c hz=>?_,hm.keep⟩,λn sb hn=>?_,h.base.sz,h.base.df⟩,λu s hs=>?_,λu s hs hg=>?_⟩;rcases hz with hz|hz;exact hm.hb.zok b i c hz;exact hz.2;rcases hz with hz|hz;exact hm.zold b i c hz;rcases hm.old m b hz.1 with h1|h1;exact .inr (.inr h1);exact .inr (.inl h1)
   ·by_cases e0:m=n;subst e0;simp only[af] at hn;obtain rfl:=Oi hn;trivial;simp only[ab _ _ e0,uZ] at hn;cases hln:look H n with
    | none=>rw[hln] at hn;cases hn
    | some sb0=>
     rw[hln] at hn;obtain rfl:=Oi hn;have hc:=h.base.blk n sb0 hln;cases sb0 with
     | gone=>trivial
     | mp k ag has g=>
      obtain⟨b,es,cl,h1,h2,h3,h4⟩:=hc;exact⟨b,es,cl,h1,h2,h3,λx hx=>let ⟨m,q1,q2,u,q3,q4⟩:=h4.keys x hx;⟨m,q1,q2,u,aE (Names.le.zo Names.bp) _ _ q3,q4⟩,h4.yes⟩
     | lay cs t=>
      obtain⟨b,vs,h1,h2,h3,h4,h5⟩:=hc;exact⟨b,vs,h1,mq hH hl hp cs vs h2,h3,h4,λi c hz=>by
       rcases hz with hz|hz;exact h5 i c hz
       ·exact e0 (hm.hb.own m n b hz.1 (.inl h1))⟩
     | lst e' U9 N' f' t'=>
      obtain⟨l,h1,h2,h3,h4,h5⟩:=hc;refine⟨l,h1,h2,h3,h4,λVG=>?_⟩;obtain⟨b,u,k1,k2,k3,k4,k5,k6⟩:=h5 VG;exact⟨b,u,k1,k2,k3,k4,λi c hz=>by
       rcases hz with hz|hz;exact k5 i c hz
       ·exact e0 (hm.hb.own m n b hz.1 (.inr (.inl ⟨e',l,0,h1,h2,VG,k1⟩))),λi hi=>let ⟨us,q1,q2⟩:=k6 i hi;⟨us,aE (Names.le.zo Names.bp) _ _ q1,q2⟩⟩
     | nst e' U9 N' f' p' ZW g' tk' t' XX=>exact m6 hc λb i c ho hz=>e0 (hm.hb.own m n b hz.1 ho)
   ·rw[nJ] at hs;cases WW:look sl u with
    | none=>rw[WW] at hs;cases hs
    | some s0=>
     rw[WW] at hs;obtain rfl:=Oi hs;exact h.rgs u s0 WW
   rw[nJ] at hs;cases WW:look sl u with
   | none=>rw[WW] at hs;cases hs
   | some s0=>
    rw[WW] at hs;obtain rfl:=Oi hs;obtain⟨x,q1,q2⟩:=h.cA u s0 WW hg;exact⟨x,Dc hH hl hp _ _ q1,q2⟩
  exact⟨ρ,h⟩
 | slot2 t sz ty=>
  simp only[tr1];split;rename_i r k v hl;split;rename_i he hr;have hr:=L' hr;obtain⟨y,h1,h2⟩:=h.cA t _ hl rfl;obtain⟨ad,rfl⟩:=pD he h1;obtain⟨UL,k1,k2,k3⟩:=ZO ad sz ty;refine⟨UL,k3,λu s hs=>?_,λu s hs hg=>?_⟩;by_cases e:t=u;subst e;simp only[af] at hs;obtain rfl:=Oi hs;exact hr;simp only[ab _ _ e] at hs;exact h.rgs u s hs;by_cases e:t=u;subst e;simp only[af] at hs;obtain rfl:=Oi hs;exact⟨_,k2 _ rfl,h2⟩;simp only[ab _ _ e] at hs;obtain⟨x,q1,q2⟩:=h.cA u s hs hg;exact⟨x,bE k1 _ _ q1,q2⟩;exact⟨ρ,h⟩;exact⟨ρ,h⟩
 | cell2 n i sz ty=>
  simp only[tr1];split;rename_i cs t hl;split;rename_i v hv;split;rename_i he;obtain⟨b,vs,h1,h2,h3,h4,h5⟩:=h.base.blk n _ hl;obtain⟨y,hy,hdy⟩:=ef h2 hv;obtain⟨ad,rfl⟩:=pD he hdy;obtain⟨UL,k1,k2,k3⟩:=ZO ad sz ty;refine⟨UL,⟨k3.mem,λm sb hm=>?_,k3.sz,k3.df⟩,h.rgs,λu s hs hg=>let ⟨x,q1,q2⟩:=h.cA u s hs hg;⟨x,bE k1 _ _ q1,q2⟩⟩;by_cases e:n=m;subst e;simp only[af] at hm;obtain rfl:=Oi hm;have hk:=k3.blk n (.lay cs t) (by have UR:nm≠n:=(by rintro rfl;have:nm<nm:=h.base.mem.dom _ b h1;omega);rw[ab _ _ UR];exact hl);obtain⟨b',Zd,q1,q2,q3,q4,q5⟩:=hk;have hbb:b'=b:=(by have:=k1.n n b h1;rw[q1] at this;exact Oi this);subst hbb;have ZH:Zd=vs:=(by have e1:W.heap[b']? = some (.cells Zd.toArray t (0,0)):=q3;have e2:W.heap[b']? = some (.cells vs.toArray t (0,0)):=h3;rw[e1] at e2;injection e2 with e2;injection e2 with e2;simpa using Uo Array.toList e2);subst ZH;refine⟨b',Zd,q1,?_,q3,q4,q5⟩;have:=tp (i:=i) q2 (k2 _ rfl);rw[xO hy] at this;exact this;simp only[ab _ _ e] at hm;exact k3.blk m sb hm;exact⟨ρ,h⟩;exact⟨ρ,h⟩;exact⟨ρ,h⟩
 | cellN n i sz p Vb tk ty=>
  simp only[tr1];split;rename_i cs t hl;split;rename_i v hv;split;rename_i he;obtain⟨b,vs,h1,h2,h3,h4,h5⟩:=h.base.blk n _ hl;obtain⟨y,hy,hdy⟩:=ef h2 hv;obtain⟨ad,rfl⟩:=pD he hdy;obtain⟨UL,k1,k2,k3⟩:=hbirthN ad sz p Vb tk ty;refine⟨UL,⟨k3.mem,λm sb hm=>?_,k3.sz,k3.df⟩,h.rgs,λu s hs hg=>let ⟨x,q1,q2⟩:=h.cA u s hs hg;⟨x,bE k1 _ _ q1,q2⟩⟩;by_cases e:n=m;subst e;simp only[af] at hm;obtain rfl:=Oi hm;have hk:=k3.blk n (.lay cs t) (by have UR:nm≠n:=(by rintro rfl;have:nm<nm:=h.base.mem.dom _ b h1;omega);rw[ab _ _ UR];exact hl);obtain⟨b',Zd,q1,q2,q3,q4,q5⟩:=hk;have hbb:b'=b:=(by have:=k1.n n b h1;rw[q1] at this;exact Oi this);subst hbb;have ZH:Zd=vs:=(by have e1:W.heap[b']? = some (.cells Zd.toArray t (0,0)):=q3;have e2:W.heap[b']? = some (.cells vs.toArray t (0,0)):=h3;rw[e1] at e2;injection e2 with e2;injection e2 with e2;simpa using Uo Array.toList e2);subst ZH;refine⟨b',Zd,q1,?_,q3,q4,q5⟩;have:=tp (i:=i) q2 (k2 _ rfl);rw[xO hy] at this;exact this;simp only[ab _ _ e] at hm;exact k3.blk m sb hm;exact⟨ρ,h⟩;exact⟨ρ,h⟩;exact⟨ρ,h⟩
 | bq M=>
  simp only[tr1];split;rename_i m1 sb Wn;exact FL Vf US UT h Wn;exact⟨ρ,h⟩
theorem vD{nm0:Nat}{a:Act}{W:World}(Vf:∀n b,UM.n n=some b->n<nm0)(US:∀e l,UM.v e=some l->e<nm0∧l.o<nm0)(UT:∀m i l,UM.k m i=some l->m<nm0):∀{t:List Tr} {st:St} {ρ:Names},Rp C nt w0 UM st ρ a W->∃UL,Rp C nt w0 UM (trs nm0 t st) UL a W
 | [],st,ρ,h=>⟨ρ,h⟩
 | t::r,st,ρ,h=>by obtain⟨UL,h'⟩:=O6 (t:=t) Vf US UT h;exact vD Vf US UT (t:=r) (st:=tr1 nm0 t st) h'
theorem Cut.at_.rp{c:Cut}{nm0:Nat}{st:St}{Q:c.α->Prop}{ρ:Names}{a:Act}{W:World}(Vf:∀n b,UM.n n=some b->n<nm0)(US:∀e l,UM.v e=some l->e<nm0∧l.o<nm0)(UT:∀m i l,UM.k m i=some l->m<nm0)(h:c.at_ nm0 st Q)(hr:Rp C nt w0 UM st ρ a W):∃b UL,Q b∧c.P b∧Rp C nt w0 UM (c.J b) UL a W:=by obtain⟨b,σ,t,hq,hp,hle⟩:=h;obtain⟨UL,VC⟩:=vD (t:=t) Vf US UT hr;exact⟨b,_,hq,hp,hle.rp Vf US UT VC⟩
theorem Cq{x y:Code}{st:St}{K:Ex->St->Prop}{Mid:St->Prop}(hx:KC C nt w0 UM x st (xA K Mid))(hy:∀UZ ρ a W,Mid UZ->Rp C nt w0 UM UZ ρ a W->wpR C.P C.co y (λe a' W'=>∃x UZ UL,e=Ex.to x∧K x UZ∧Rp C nt w0 UM UZ UL a' W') a W):KC C nt w0 UM (.seq x y) st K:=by
 intro ρ a W hr;refine ja (dY (hx ρ a W hr) ?_);rintro e a' W' ⟨x',UZ,UL,rfl,hk,VC⟩;cases x' with
 | normal=>exact hy UZ UL a' W' hk VC
 | exit i=>exact⟨.exit i,UZ,UL,rfl,hk,VC⟩
 | ret=>exact⟨.ret,UZ,UL,rfl,hk,VC⟩
theorem Li{x:Code}{f:St->(Ex->St->Prop)->Prop}{K:Ex->St->Prop}(hf:∀st K,f st K->KC C nt w0 UM x st K){n:Nat}{st:St}(h:unr f n st K):KC C nt w0 UM (.loop x) st K:=by
 intro ρ a W hr;refine ry (λn a W=>∃st ρ,Rp C nt w0 UM st ρ a W∧unr f n st K) n ⟨st,ρ,hr,h⟩ ?_;rintro n a W ⟨st,ρ,hr,h⟩;cases n with
 | zero=>exact h.elim
 | succ n=>
  refine dY (hf st _ h ρ a W hr) ?_;rintro e a' W' ⟨x',UZ,UL,rfl,hk,VC⟩;cases x' with
  | normal=>exact⟨n,Nat.lt_succ_self n,UZ,UL,VC,hk⟩
  | exit i=>exact⟨.exit i,UZ,UL,rfl,hk,VC⟩
  | ret=>exact⟨.ret,UZ,UL,rfl,hk,VC⟩
theorem dC{nm0:Nat}{h:XA}(hI:eu C I)(hm:C.P.follows .mixedOrders=true)(Vf:∀n b,UM.n n=some b->n<nm0)(US:∀e l,UM.v e=some l->e<nm0∧l.o<nm0)(UT:∀m i l,UM.k m i=some l->m<nm0) :
  ∀(c:Code) (st:St) (K:Ex->St->Prop),du h.fl c=true->ev Γ nt nm0 I inls h c st K->KC C nt w0 UM c st K
 | .skip,st,K,hB,he=>λρ a W hr=>rv ⟨.normal,st,ρ,rfl,he,hr⟩
 | .region id ops draw,st,K,hB,he=>λρ a W hr=>zj hI hm (Bool.and_eq_true_iff.1 hB).1 hr he λUZ UL a' W' hk VC=>⟨.normal,UZ,UL,rfl,hk,VC⟩
 | .seq x y,st,K,hB,he=>by have hB:=Bool.and_eq_true_iff.1 hB;simp only[ev] at he;split at he;exact Cq (dC hI hm Vf US UT x st _ hB.1 he) λUZ ρ a W hk hr=>dC hI hm Vf US UT y UZ K hB.2 hk ρ a W hr;obtain⟨c,he⟩:=he;refine Cq (dC hI hm Vf US UT x st _ hB.1 he.1) λUZ ρ a W hk hr=>?_;obtain⟨b,UL,-,hp,VC⟩:=hk.rp Vf US UT hr;exact dC hI hm Vf US UT y (c.J b) K hB.2 (he.2 b hp) _ a W VC
 | .cond c x y,st,K,hB,he=>λρ a W hr=>by have hB:=Bool.and_eq_true_iff.1 hB;simp only[ev] at he;split at he;rename_i hc;split at he;exact jr (fY hr hc) (dC hI hm Vf US UT x st K hB.1 he ρ a W hr);obtain⟨c',he,he2⟩:=he;obtain⟨b',UL,-,hp,VC⟩:=he.rp Vf US UT hr;exact jr (fY hr hc) (dC hI hm Vf US UT x (c'.J b') K hB.1 (he2 b' hp) _ a W VC);rename_i hc;exact iJ (fY hr hc) (dC hI hm Vf US UT y st K hB.2 he ρ a W hr);rename_i b hc;split at he;exact lp (fY hr hc) (λhb=>dC hI hm Vf US UT x st K hB.1 (he.1 hb) ρ a W hr) (λhb=>dC hI hm Vf US UT y st K hB.2 (he.2 hb) ρ a W hr);refine lp (fY hr hc) (λhb=>?_) (λhb=>dC hI hm Vf US UT y st K hB.2 (he.2 hb) ρ a W hr);obtain⟨c',hf,he2⟩:=he.1 hb;obtain⟨b',UL,-,hp,VC⟩:=hf.rp Vf US UT hr;exact dC hI hm Vf US UT x (c'.J b') K hB.1 (he2 b' hp) _ a W VC;cases he
 | .block id x,st,K,hB,he=>λρ a W hr=>by
  refine oK (dY (dC hI hm Vf US UT x st _ hB he ρ a W hr) ?_);rintro e a' W' ⟨x',UZ,UL,rfl,hk,VC⟩;cases x' with
  | normal=>exact⟨.normal,UZ,UL,rfl,hk,VC⟩
  | ret=>exact⟨.ret,UZ,UL,rfl,hk,VC⟩
  | exit i=>
   show if i=id then _ else _;simp only at hk;split at hk;rename_i hb;rw[Uw (Nb hb)];exact⟨.normal,UZ,UL,rfl,hk,VC⟩;rename_i hb;rw[Uv (λe=>by rw[e,UG] at hb;cases hb)];exact⟨.exit i,UZ,UL,rfl,hk,VC⟩
 | .loop x,st,K,hB,he=>by
  simp only[ev] at he;split at he;exact Li (λst K hh=>dC hI hm Vf US UT x st K hB hh) he;obtain⟨c,hc0,XY⟩:=he;intro ρ a W hr;obtain⟨b0,VU,-,hp0,hr0⟩:=hc0.rp Vf US UT hr;refine ry (λn a W=>∃b ρ,c.μ b=n∧c.P b∧Rp C nt w0 UM (c.J b) ρ a W) _ ⟨b0,VU,rfl,hp0,hr0⟩ ?_;rintro n a W ⟨b,ρ,rfl,hp,hr⟩;refine dY (dC hI hm Vf US UT x (c.J b) _ hB (XY b hp) ρ a W hr) ?_;rintro e a' W' ⟨x',UZ,UL,rfl,hk,VC⟩;cases x' with
  | normal=>
   obtain⟨b',ρ'',UY,hp',hr''⟩:=Cut.at_.rp Vf US UT hk VC;exact⟨_,UY,b',_,rfl,hp',hr''⟩
  | exit i=>exact⟨.exit i,UZ,UL,rfl,hk,VC⟩
  | ret=>exact⟨.ret,UZ,UL,rfl,hk,VC⟩
 | .exit id,st,K,hB,he=>λρ a W hr=>xu ⟨.exit id,st,ρ,rfl,he,hr⟩
 | .ret,st,K,hB,he=>λρ a W hr=>K1 ⟨.ret,st,ρ,rfl,he,hr⟩
 | .rangeFunc ..,st,K,hB,he=>he.elim
 | .scope _,st,K,hB,he=>he.elim
 | .label _,st,K,hB,he=>he.elim
 | .goto _,st,K,hB,he=>he.elim
 | .refuse _,st,K,hB,he=>he.elim
def Sat{PP:Program}(C:Cx PP)(nt:Nat)(w0:World)(UM:Names)(c:Code)(st:St)(K:Ex->St->Prop):Prop:=
 ∀ρ a W,Rp C nt w0 UM st ρ a W->wpJ C.P C.co c (λe a' W'=>∃x UZ UL,e=Ex.to x∧K x UZ∧Rp C nt w0 UM UZ UL a' W') a W
theorem zh{nm0:Nat}{h:XA}(hI:eu C I)(hm:C.P.follows .mixedOrders=true)(Vf:∀n b,UM.n n=some b->n<nm0)(US:∀e l,UM.v e=some l->e<nm0∧l.o<nm0)(UT:∀m i l,UM.k m i=some l->m<nm0)
  (c:Code) (st:St) (K:Ex->St->Prop) (hB:du h.fl c=true) (he:ev Γ nt nm0 I inls h c st K):Sat C nt w0 UM c st K:=λρ a W hR=>(dC hI hm Vf US UT c st K hB he ρ a W hR).toJ
end
end Go.Proofs.YtgigkennhdolpaaGreatDoor
