/- A symbolic executor with lists. -/
import Derived.Test.YtmdpdknpapjchaaGreatDoorM6
set_option linter.all false
namespace Go.Proofs.YtmdpdknpapjchaaGreatDoor
open Go.RowKit
variable {p:Addr}{after:Array Edge}{op:BinOp}{kk:IntKind}{news:List Value}{Yg c cap h k len m n off sCap size:Nat}{x:Operand}{PP:Program}{pos:String}{α:Type}{d:TypeDesc}{e t:TypeId}{i inf:TypeInfo}{v:Value}{W' w:World}
inductive SV where
 | v (x:Value)
 | il (k:IntKind) (n:Int)
 | bl (b:Bool)
 | p (n off:Nat)
 | s (n sz off len cap:Nat)
 | f (fn:Fn) (first captured:List SV)
 | agg (l:List SV)
 | tup (l:List SV)
 | e
 | rs (sz n:Nat) (f:Nat->List SV)
 | rp (x:List SV) (off:Nat)
 | g (m e sz off n:Nat)
 | gp (m e sz i off:Nat)
 | m (n:Nat)
 | kd (m i sz off n:Nat)
 | kq (m i sz j off:Nat)
variable {y:SV}
structure LV where
 o:Nat
 a:Option Addr
 cap:Nat
 N:Nat
structure Names where
 n:Nat->Option Nat
 v:Nat->Option LV
 k:Nat->Nat->Option LV
 z:Nat->Nat->Value->Prop
  /-- The deferred calls of the frame that is walked (nothing else reads it). -/
 d:List Deferred
  /-- Blocks that are owned under no name. -/
 o:Nat->Prop
variable {ρ:Names}
def Names.zo(ρ:Names):Names:=⟨λ_=>none,λ_=>none,λ_ _=>none,ρ.z,[],λ_=>False⟩
def Names.YE(ρ:Names):Names:=⟨ρ.n,ρ.v,ρ.k,ρ.z,[],λ_=>False⟩
mutual
def den:Names->SV->Value->Prop
 | _,.v x,y=>y=x
 | _,.il k n,y=>y=.int k n
 | _,.bl b,y=>y=.bool b
 | ρ,.p n off,y=>∃b,ρ.n n=some b∧y=.pointer (some ⟨b,off,none⟩)
 | ρ,.s n _ off len cap,y=>∃b,ρ.n n=some b∧y=.slice (some ⟨b,off,none⟩) len cap
 | ρ,.f fn first captured,y=>∃u w,au ρ first u∧au ρ captured w∧y=.func fn u.toArray w.toArray
 | ρ,.agg l,y=>∃u,au ρ l u∧y=.agg u.toArray
 | ρ,.tup l,y=>∃u,au ρ l u∧y=.tuple u.toArray
 | _,.e,y=>∃a,y=.slice a 0 0
 | ρ,.rs sz n f,y=>∃a cap,y=.slice a n cap∧n<=cap∧∀i,i<n->∃b o u,a=some ⟨b,o,none⟩∧au ρ.zo (f i) u∧u.length=sz∧∀k c,u[k]? = some c->ρ.z b (o+i*sz+k) c
 | ρ,.rp x off,y=>∃b o u,y=.pointer (some ⟨b,o+off,none⟩)∧au ρ.zo x u∧∀k c,u[k]? = some c->ρ.z b (o+k) c
 | ρ,.g m e sz off n,y=>∃l,ρ.v e=some l∧l.o=m∧off+n<=l.N∧l.N<=l.cap∧∃a',y=.slice a' n (l.cap-off)∧(l.cap-off≠0->∃b,l.a=some ⟨b,0,none⟩∧a'=some ⟨b,off*sz,none⟩)
 | ρ,.gp m e sz i off,y=>∃l b,ρ.v e=some l∧l.o=m∧i<l.N∧l.N<=l.cap∧l.a=some ⟨b,0,none⟩∧y=.pointer (some ⟨b,i*sz+off,none⟩)
 | ρ,.m n,y=>∃b,ρ.n n=some b∧y=.map (some b)
 | ρ,.kd m i sz off n,y=>∃l,ρ.k m i=some l∧off+n<=l.N∧l.N<=l.cap∧∃a',y=.slice a' n (l.cap-off)∧(l.cap-off≠0->∃b,l.a=some ⟨b,0,none⟩∧a'=some ⟨b,off*sz,none⟩)
 | ρ,.kq m i sz j off,y=>∃l b,ρ.k m i=some l∧j<l.N∧l.N<=l.cap∧l.a=some ⟨b,0,none⟩∧y=.pointer (some ⟨b,j*sz+off,none⟩)
def au:Names->List SV->List Value->Prop
 | _,[],y=>y=[]
 | ρ,x::r,y=>∃a b,y=a::b∧den ρ x a∧au ρ r b
end
structure Names.le (ρ XM:Names):Prop where
 n:∀n b,ρ.n n=some b->XM.n n=some b
 v:∀n b,ρ.v n=some b->XM.v n=some b
 k:∀n i b,ρ.k n i=some b->XM.k n i=some b
 z:∀b i c,ρ.z b i c->XM.z b i c
theorem Names.le.refl(ρ:Names):ρ.le ρ:=⟨λ_ _ h=>h,λ_ _ h=>h,λ_ _ _ h=>h,λ_ _ _ h=>h⟩
theorem Names.le.trans{a b c:Names}(h:a.le b)(k:b.le c):a.le c:=⟨λn m x=>k.n n m (h.n n m x),λn m x=>k.v n m (h.v n m x),λn m y x=>k.k n m y (h.k n m y x),λn m y x=>k.z n m y (h.z n m y x)⟩
theorem Names.le.zo{a b:Names}(h:a.le b):a.zo.le b.zo:=⟨λ_ _ h=>(by cases h),λ_ _ h=>(by cases h),λ_ _ _ h=>(by cases h),h.z⟩
theorem Names.vW(a:Names):a.zo.le a:=⟨λ_ _ h=>(by cases h),λ_ _ h=>(by cases h),λ_ _ _ h=>(by cases h),λ_ _ _ h=>h⟩
mutual
theorem bE{ρ XM:Names}(h:ρ.le XM):∀(x:SV) (v:Value),den ρ x v->den XM x v
 | .v x,v,e=>e
 | .il k n,v,e=>e
 | .bl b,v,e=>e
 | .p n off,v,⟨b,e1,e2⟩=>⟨b,h.n _ _ e1,e2⟩
 | .s n sz off len cap,v,⟨b,e1,e2⟩=>⟨b,h.n _ _ e1,e2⟩
 | .f fn first captured,v,⟨u,w,e1,e2,e3⟩=>⟨u,w,aK h _ _ e1,aK h _ _ e2,e3⟩
 | .agg l,v,⟨u,e1,e2⟩=>⟨u,aK h _ _ e1,e2⟩
 | .tup l,v,⟨u,e1,e2⟩=>⟨u,aK h _ _ e1,e2⟩
 | .e,v,e=>e
 | .rs sz n f,v,⟨a,cap,e1,e2,e3⟩=>⟨a,cap,e1,e2,λi hi=>let ⟨b,o,u,k1,k2,k3,k4⟩:=e3 i hi;⟨b,o,u,k1,aK h.zo _ _ k2,k3,λk c hc=>h.z _ _ _ (k4 k c hc)⟩⟩
 | .rp x off,v,⟨b,o,u,e1,e2,e3⟩=>⟨b,o,u,e1,aK h.zo _ _ e2,λk c hc=>h.z _ _ _ (e3 k c hc)⟩
 | .g m e sz off n,v,⟨l,e1,e2⟩=>⟨l,h.v _ _ e1,e2⟩
 | .gp m e sz i off,v,⟨l,b,e1,e2⟩=>⟨l,b,h.v _ _ e1,e2⟩
 | .m n,v,⟨b,e1,e2⟩=>⟨b,h.n _ _ e1,e2⟩
 | .kd m i sz off n,v,⟨l,e1,e2⟩=>⟨l,h.k _ _ _ e1,e2⟩
 | .kq m i sz j off,v,⟨l,b,e1,e2⟩=>⟨l,b,h.k _ _ _ e1,e2⟩
theorem aK{ρ XM:Names}(h:ρ.le XM):∀(l:List SV) (v:List Value),au ρ l v->au XM l v
 | [],v,e=>e
 | x::r,v,⟨a,b,e1,e2,e3⟩=>⟨a,b,e1,bE h x a e2,aK h r b e3⟩
end
theorem aF{x:SV}{r:List SV}{l:List Value}(h:au ρ (x::r) l):∃a b,l=a::b∧den ρ x a∧au ρ r b:=h
theorem aN{x:SV}{r:List SV}{a:Value}{b:List Value}(h:den ρ x a)(k:au ρ r b):au ρ (x::r) (a::b):=⟨a,b,rfl,h,k⟩
theorem bX{l:List Value}(h:au ρ [] l):l=[]:=h
theorem eu{ρ:Names} : ∀{l:List SV} {vs:List Value} {i:Nat} {x:SV},au ρ l vs->l[i]? = some x->∃v,vs[i]? = some v∧den ρ x v
 | [],_,_,_,_,hi=>by simp at hi
 | y::r,vs,0,x,h,hi=>by obtain⟨a,b,rfl,h1,h2⟩:=aF h;obtain rfl:y=x:=(by simpa using hi);exact⟨a,rfl,h1⟩
 | y::r,vs,i+1,x,h,hi=>by obtain⟨a,b,rfl,h1,h2⟩:=aF h;obtain⟨v,hv,hd⟩:=eu h2 (by simpa using hi);exact⟨v,by simpa using hv,hd⟩
theorem aB{ρ:Names} : ∀{l:List SV} {vs:List Value},au ρ l vs->vs.length=l.length
 | [],vs,h=>by rw[bX h];rfl
 | y::r,vs,h=>by obtain⟨a,b,rfl,h1,h2⟩:=aF h;simp[aB h2]
theorem bg{ρ:Names} : ∀{l m:List SV} {vs us:List Value},au ρ l vs->au ρ m us->au ρ (l++m) (vs++us)
 | [],m,vs,us,h,k=>by rw[bX h];exact k
 | y::r,m,vs,us,h,k=>by obtain⟨a,b,rfl,h1,h2⟩:=aF h;exact aN h1 (bg h2 k)
theorem uX{ρ:Names} : ∀{l:List SV} {vs:List Value} {i:Nat} {x:SV} {v:Value},au ρ l vs->den ρ x v->au ρ (l.set i x) (vs.set i v)
 | [],vs,i,x,v,h,hx=>by rw[bX h];rfl
 | y::r,vs,0,x,v,h,hx=>by obtain⟨a,b,rfl,h1,h2⟩:=aF h;exact aN hx h2
 | y::r,vs,i+1,x,v,h,hx=>by obtain⟨a,b,rfl,h1,h2⟩:=aF h;exact aN h1 (uX h2 hx)
theorem bS{ρ:Names} : ∀{l:List SV} {vs:List Value} (i:Nat),au ρ l vs->au ρ (l.drop i) (vs.drop i)
 | [],vs,i,h=>by rw[bX h];simp[au]
 | y::r,vs,0,h=>h
 | y::r,vs,i+1,h=>by obtain⟨a,b,rfl,h1,h2⟩:=aF h;exact bS i h2
theorem dt{ρ:Names} : ∀{l:List SV} {vs:List Value} (i:Nat),au ρ l vs->au ρ (l.take i) (vs.take i)
 | [],vs,i,h=>by rw[bX h];simp[au]
 | y::r,vs,0,h=>by simp[au]
 | y::r,vs,i+1,h=>by obtain⟨a,b,rfl,h1,h2⟩:=aF h;exact aN h1 (dt i h2)
def takeN:Nat->List SV->Option (List SV)
 | 0,_=>some []
 | _+1,[]=>none
 | n+1,x::r=>match takeN n r with|some l=>some (x::l)|none=>none
theorem jc{ρ:Names} : ∀{n:Nat} {l m:List SV} {vs:List Value},takeN n l=some m->au ρ l vs->au ρ m (vs.take n)∧n<=vs.length
 | 0,l,m,vs,h,hd=>by obtain rfl:[]=m:=(by simpa[takeN] using h);exact⟨rfl,by omega⟩
 | n+1,[],m,vs,h,hd=>by simp[takeN] at h
 | n+1,x::r,m,vs,h,hd=>by
  obtain⟨a,b,rfl,h1,h2⟩:=aF hd;simp only[takeN] at h;cases hr:takeN n r with
  | none=>rw[hr] at h;cases h
  | some l=>
   rw[hr] at h;obtain rfl:=Oi h;obtain⟨k1,k2⟩:=jc hr h2;exact⟨by simpa using aN h1 k1,by simp;omega⟩
def laid{α:Type} : List α->Option (List α)
 | []=>some []
 | x::r=>match laid r with|some l=>some (x::l)|none=>none
theorem dG{α:Type} : ∀{l m:List α},laid l=some m->m=l
 | [],m,h=>by simpa[laid] using h.symm
 | x::r,m,h=>by
  simp only[laid] at h;cases hr:laid r with
  | none=>rw[hr] at h;cases h
  | some l=>rw[hr] at h;rw[<-Oi h,dG hr]
def look{α:Type} : List (Nat×α)->Nat->Option α
 | [],_=>none
 | (m,a)::r,n=>match Nat.beq m n with|true=>some a|false=>look r n
theorem ai(l:List (Nat×α))(n:Nat)(a:α):look ((n,a)::l) n=some a:=by simp[look]
theorem ah(l:List (Nat×α))(a:α)(h:m≠n):look ((m,a)::l) n=look l n:=by
 have:Nat.beq m n=false:=by
  cases hb:Nat.beq m n with
  | false=>rfl
  | true=>exact P' (Nb hb) h
 simp[look,this]
theorem Ag{α:Type} : ∀{l:List (Nat×α)} {n:Nat} {a:α},look l n=some a->(n,a)∈l
 | [],_,_,h=>by simp[look] at h
 | (m,b)::r,n,a,h=>by by_cases hm:m=n;subst hm;rw[ai] at h;rw[Oi h];exact J';rw[ah r b hm] at h;exact Xm _ (Ag h)
inductive TK where
 | prim
 | bool
 | int (k:IntKind)
 | struct (fs:List (Nat×Nat))
 | arr (n e:Nat)
 | sl (e:Nat)
 | mp (k e:Nat)
 | str
 | ptr
def iM:TK->Bool
 | .struct _=>true
 | .arr _ _=>true
 | _=>false
def T5:Value->Bool
 | .agg _=>true
 | _=>false
structure TI where
 sz:Nat
  /-- How many bytes. -/
 nb:Nat
 k:TK
 z:List SV
  /-- May two of them be compared field by field? -/
 eq:Bool
variable {ti:TI}
def sR:Value->SV->Bool
 | .bool a,.bl b=>a==b
 | .int k n,.il k' m=>k==k'&&n==m
 | .pointer none,.v (.pointer none)=>true
 | .slice none a b,.v (.slice none c d)=>a==c&&b==d
 | .nilFunc,.v .nilFunc=>true
 | .nilIface,.v .nilIface=>true
 | .map none,.v (.map none)=>true
 | .string s,.v (.string s')=>s.data.size==0&&s'.data.size==0
 | _,_=>false
theorem B6{x:Value}(h:sR x y=true):den ρ y x:=by unfold sR at h;split at h<;>first|(rename_i s s';obtain⟨s⟩:=s;obtain⟨s'⟩:=s';simp only[I',beq_iff_eq] at h;rw[Array.eq_empty_of_size_eq_zero h.1,Array.eq_empty_of_size_eq_zero h.2];simp[den];done)|simp_all [den]
theorem B5{x:Value}(h:sR x y=true):x.oneCell'=true:=by unfold sR at h;split at h<;>first|rfl|cases h
def eY:List Value->List SV->Bool
 | [],[]=>true
 | x::r,y::s=>sR x y&&eY r s
 | _,_=>false
theorem cg{ρ:Names} : ∀{l:List Value} {m:List SV},eY l m=true->au ρ m l
 | [],[],_=>rfl
 | [],y::s,h=>by simp[eY] at h
 | x::r,[],h=>by simp[eY] at h
 | x::r,y::s,h=>by simp only[eY,I'] at h;exact aN (B6 h.1) (cg h.2)
theorem l7:∀{l:List Value} {m:List SV},eY l m=true->∀c∈l,c.oneCell'=true
 | [],m,_,c,hc=>by cases hc
 | x::r,[],h,_,_=>by simp[eY] at h
 | x::r,y::s,h,c,hc=>by simp only[eY,I'] at h;rcases Xq.1 hc with rfl|hc;exact B5 h.1;exact l7 h.2 c hc
def aX:TypeDesc->TK->Bool
 | .struct fs,.struct l=>(fs.toList.map λf=>(f.offset,f.type))==l
 | .array n e,.arr n' e'=>n==n'&&e==e'
 | .slice e,.sl e'=>e==e'
 | .map k e,.mp k' e'=>k==k'&&e==e'
 | .pointer _,.ptr=>true
 | .struct _,_=>false
 | .array _ _,_=>false
 | .slice _,_=>false
 | .bool,.bool=>true
 | .bool,_=>false
 | .int k,.int k'=>decide (k=k')
 | .int _,_=>false
 | .string,.str=>true
 | _,.prim=>true
 | _,_=>false
def PE(P:Program)(t:Nat):Bool:=
 !P.stoodInHeld t&&!P.eqGuardType P.depth t&&(match P.underlying t with|some (.struct fs)=>fs.toList.all λf=>f.name != "_" | _=>true)
def Qo(P:Program)(x:Nat×TI):Bool:=
 match P.info? x.1,P.underlying x.1 with
 | some i,some d=>i.size==x.2.sz&&i.bytes==x.2.nb&&(match i.zero with|some z=>eY z.cells.toList x.2.z&&(T5 z==iM x.2.k)|none=>false)&&aX d x.2.k&&(!x.2.eq||PE P x.1)
 | _,_=>false
structure MV (P:Program) (t:Nat) (ti:TI):Prop where
 ex:∃i d z,P.info? t=some i∧P.underlying t=some d∧i.size=ti.sz∧i.zero=some z∧eY z.cells.toList ti.z=true∧aX d ti.k=true∧i.bytes=ti.nb
 eq:ti.eq=true->PE P t=true
 ag:∀i z,P.info? t=some i->i.zero=some z->T5 z=iM ti.k
theorem Dm{P:Program}{t:Nat}(h:Qo P (t,ti)=true):MV P t ti:=by
 unfold Qo at h;split at h
 ·rename_i i d hi hd;simp only[I',beq_iff_eq] at h;obtain⟨⟨⟨⟨h1,h5⟩,h2⟩,h3⟩,h4⟩:=h;cases hz:i.zero with
  | none=>rw[hz] at h2;cases h2
  | some z=>
   rw[hz] at h2;simp only[I',beq_iff_eq] at h2;exact⟨⟨i,d,z,hi,hd,h1,hz,h2.1,h3,h5⟩,λhe=>by rw[he] at h4;simpa using h4,λi' z' YT Y4=>by rw[hi] at YT;obtain rfl:=Oi YT;rw[hz] at Y4;obtain rfl:=Oi Y4;exact h2.2⟩
 cases h
inductive nH where
 | i (k:IntKind)
 | str
def rU:List UInt8->Nat
 | []=>0
 | b::r=>rU r*256+b.toNat+1
def uY(n:Nat):List UInt8:=if h:n=0 then [] else UInt8.ofNat ((n-1)%256)::uY ((n-1)/256)
termination_by n
decreasing_by omega
theorem FF:∀l,uY (rU l)=l
 | []=>by unfold uY rU;rfl
 | b::r=>by
  have hb:b.toNat<256:=b.toNat_lt;rw[uY,rU,dif_neg (by omega),show rU r*256+b.toNat+1-1=rU r*256+b.toNat by omega,show (rU r*256+b.toNat)%256=b.toNat by omega,show (rU r*256+b.toNat)/256=rU r by omega,FF r]
  congr 1
  exact UInt8.ofNat_toNat
theorem FA(n:Nat):rU (uY n)=n:=by
 induction n using Nat.strongRecOn with
 | _ n ih=>
  rw[uY];split;rename_i h;rw[h];rfl;rename_i h;rw[rU,ih _ (by omega)];have:(UInt8.ofNat ((n-1)%256)).toNat=(n-1)%256:=(by simp[UInt8.toNat_ofNat]);rw[this];omega
def zz(n:Int):Nat:=if 0<=n then 2*n.toNat else 2*(-n).toNat-1
def zzI(n:Nat):Int:=if n%2=0 then(n/2:Nat) else -((n+1)/2:Nat)
theorem RG(n:Nat):zz (zzI n)=n:=by unfold zz zzI;split<;>split<;>omega
theorem IU(n:Int):zzI (zz n)=n:=by unfold zz zzI;split<;>split<;>omega
def PI(s:ByteArray):Int:=zzI (rU s.data.toList)
def LP(n:Int):ByteArray:=⟨(uY (zz n)).toArray⟩
theorem Hy(s:ByteArray):LP (PI s)=s:=by unfold LP PI;rw[RG,FF]
theorem LN{m n:Int}(h:LP m=LP n):m=n:=by
 have h1:(uY (zz m)).toArray=(uY (zz n)).toArray:=O' ByteArray.data h;have h2:uY (zz m)=uY (zz n):=by simpa using h1
 have h3:zz m=zz n:=by rw[<-FA (zz m),h2,FA]
 rw[<-IU m,h3,IU]
def j8:nH->Int->Value
 | .i k,n=>.int k n
 | .str,n=>.string (LP n)
theorem KE{k:nH}{m n:Int}(h:j8 k m=j8 k n):m=n:=by
 cases k with
 | i k=>injection h
 | str=>injection h with h;exact LN h
inductive SB where
 | lay (cs:List SV) (t:TypeId)
 | lst (e sz N:Nat) (f:Nat->List SV) (t:TypeId)
 | gone
 | nst (e sz N:Nat) (f:Nat->List SV) (p Yf:Nat) (g:Nat->Nat×(Nat->List SV)) (tk t:TypeId) (last:Option (List SV))
 | mp (k:nH) (ag:Bool) (has:Int->Bool) (g:Int->List SV)
structure Cx (P:Program) where
 T:List (Nat×TI)
 G:List (Nat×(List SV×TypeId))
 gm:Nat
 hT:T.all (Qo P)=true
  /-- May what starts goroutines be called? -/
 co:Bool:=false
variable {C:Cx PP}
abbrev Cx.P (_:Cx PP):Program:=PP
theorem Cx.ty(C:Cx PP){t:Nat}(h:look C.T t=some ti):MV C.P t ti:=Dm (List.all_eq_true.1 C.hT _ (Ag h))
def sB:Names:=⟨λ_=>none,λ_=>none,λ_ _=>none,λ_ _ _=>False,[],λ_=>False⟩
theorem tV(ρ:Names):sB.le ρ:=⟨λ_ _ h=>(by cases h),λ_ _ h=>(by cases h),λ_ _ _ h=>(by cases h),λ_ _ _ h=>h.elim⟩
def Cx.ZQ(C:Cx PP)(W:World):Prop:=C.gm<=W.heap.size∧∀b sb,look C.G b=some sb->b<C.gm∧∃vs,au sB sb.1 vs∧∀(i:Nat) (v:Value),vs[i]? = some v->W.cell? ⟨b,i,none⟩=some v
theorem cell_of_heap{W:World}{b i:Nat}(h:W'.heap[b]? = W.heap[b]?):W'.cell? ⟨b,i,none⟩=W.cell? ⟨b,i,none⟩:=by unfold World.cell?;simp only;rw[h]
theorem fU{W:World}{b i:Nat}(h:W.cell? ⟨b,i,none⟩=some v):b<W.heap.size:=World.block_lt_of_cell? W (⟨b,i,none⟩:Addr) h
theorem Cx.ZQ.keep{W:World}(h:C.ZQ W)(hs:W.heap.size<=W'.heap.size)(g:∀b,b<C.gm->W'.heap[b]? = W.heap[b]?):C.ZQ W':=
 ⟨Nat.le_trans h.1 hs,λb sb hb=>let ⟨h0,vs,h1,h2⟩:=h.2 b sb hb;⟨h0,vs,h1,λi v hv=>(cell_of_heap (g b h0)).trans (h2 i v hv)⟩⟩
theorem Cx.ZQ.gr{W:World}(h:C.ZQ W)(g:Gr W W'):C.ZQ W':=h.keep g.size λb hb=>Below.block g b (Nat.lt_of_lt_of_le hb h.1)
def bM(ρ:Names)(n b:Nat):Prop:=ρ.n n=some b∨(∃e l o,ρ.v e=some l∧l.o=n∧l.cap≠0∧l.a=some ⟨b,o,none⟩)∨∃i l o,ρ.k n i=some l∧l.cap≠0∧l.a=some ⟨b,o,none⟩
structure HB {PP:Program} (C:Cx PP) (ρ:Names) (W:World):Prop where
 own:∀n n' b,bM ρ n b->bM ρ n' b->n=n'
 low:∀n b,bM ρ n b->C.gm<=b∧b<W.heap.size
 zok:∀b i c,ρ.z b i c->W.cell? ⟨b,i,none⟩=some c∧c.oneCell'=true
 grd:C.ZQ W
def FZ(ag:Bool)(u:List Value)(v:Value):Prop:=match ag with|true=>v=.agg u.toArray|false=>u=[v]
structure VQ (ρ:Names) (k:nH) (ag:Bool) (has:Int->Bool) (g:Int->List SV) (es:List MapEntry):Prop where
 keys:∀e∈es,∃n,e.key=j8 k n∧has n=true∧∃u,au ρ.zo (g n) u∧FZ ag u e.val
 yes:∀n,has n=true->∃e∈es,e.key=j8 k n
def fF(ρ:Names)(W:World)(l:LV)(sz:Nat)(f:Nat->List SV)(t:TypeId):Prop:=
 l.N<=l.cap∧(l.cap≠0->∃(b:Nat) (u:List Value),l.a=some ⟨b,0,none⟩∧Zq W b u.toArray t∧u.length=l.cap*sz∧(∀c∈u,c.oneCell'=true)∧(∀i c,¬ρ.z b i c) ∧
  ∀i,i<l.N->∃us,au ρ.zo (f i) us∧us.length=sz∧∀k c,us[k]? = some c->u[i*sz+k]? = some c)
def WC : Option α->Nat
 | none=>0
 | some _=>1
structure Xc (ρ:Names) (W:World) (n e sz N:Nat) (f:Nat->List SV) (p Yf:Nat) (g:Nat->Nat×(Nat->List SV)) (tk t:TypeId) (last:Option (List SV)) (l:LV):Prop where
 hv:ρ.v e=some l
 ho:l.o=n
 hN:l.N=N+WC last
 hle:l.N<=l.cap
 row:l.cap≠0->∃(b:Nat) (u:List Value),l.a=some ⟨b,0,none⟩∧Zq W b u.toArray t∧u.length=l.cap*sz∧(∀c∈u,c.oneCell'=true)∧(∀i c,¬ρ.z b i c) ∧
  (∀i,i<N->∃q us,ρ.k n i=some q∧au ρ.zo ((f i).set p (.v (.slice q.a q.N q.cap))) us∧us.length=sz∧∀k c,us[k]? = some c->u[i*sz+k]? = some c) ∧
  (∀cs,last=some cs->∃us,au ρ cs us∧us.length=sz∧∀k c,us[k]? = some c->u[N*sz+k]? = some c) ∧
  ∀i q b',ρ.k n i=some q->q.cap≠0->q.a=some ⟨b',0,none⟩->b'≠b
 kid:∀i,i<N->∃q,ρ.k n i=some q∧q.N=(g i).1∧fF ρ W q Yf (g i).2 tk
 no:∀i,N<=i->ρ.k n i=none
 ne:∀i j q r b,ρ.k n i=some q->ρ.k n j=some r->q.cap≠0->r.cap≠0->q.a=some ⟨b,0,none⟩->r.a=some ⟨b,0,none⟩->i=j
def cS(ρ:Names)(W:World)(n:Nat):SB->Prop
 | .lay cs t=>∃b vs,ρ.n n=some b∧au ρ cs vs∧Zq W b vs.toArray t∧(∀c∈vs,c.oneCell'=true)∧∀i c,¬ρ.z b i c
 | .lst e sz N f t=>∃l,ρ.v e=some l∧l.o=n∧l.N=N∧N<=l.cap∧(l.cap≠0->∃(b:Nat) (u:List Value),l.a=some ⟨b,0,none⟩∧Zq W b u.toArray t∧u.length=l.cap*sz∧(∀c∈u,c.oneCell'=true)∧(∀i c,¬ρ.z b i c) ∧
   ∀i,i<N->∃us,au ρ.zo (f i) us∧us.length=sz∧∀k c,us[k]? = some c->u[i*sz+k]? = some c)
 | .gone=>True
 | .nst e sz N f p Yf g tk t last=>∃l,Xc ρ W n e sz N f p Yf g tk t last l
 | .mp k ag has g=>∃b es cl,ρ.n n=some b∧W.heap[b]? = some (.map es cl)∧Go.MapKept.Stamped es cl∧VQ ρ k ag has g es.toList
structure YH {PP:Program} (C:Cx PP) (H:List (Nat×SB)) (ρ:Names) (W:World):Prop where
 hb:HB C ρ W
 blk:∀n sb,look H n=some sb->cS ρ W n sb
structure ZB {PP:Program} (C:Cx PP) (ρ:Names) (W:World) (nm:Nat) (wn:Option Nat) (fr:Bool) (XM:Names) (W':World):Prop where
 le:ρ.le XM
 nn:∀n b,XM.n n=some b->ρ.n n=some b∨(n=nm∧fr=true∧wn=some n∧W.heap.size<=b)
 nv:∀e l,XM.v e=some l->ρ.v e=some l∨(e=nm∧fr=true∧wn=some l.o∧∀b o,l.a=some ⟨b,o,none⟩->l.cap≠0->bM ρ l.o b∨W.heap.size<=b)
 nz:∀b i c,XM.z b i c->ρ.z b i c∨W.heap.size<=b
 nk:∀m i,XM.k m i=ρ.k m i
 os:W'.os=W.os
 tape:W'.tape=W.tape
 output:W'.output=W.output
 size:W.heap.size<=W'.heap.size
 block:∀b,b<W.heap.size->(∀n,wn=some n->¬bM ρ n b)->W'.heap[b]? = W.heap[b]?
 hb:HB C XM W'
section
variable {XM:Names}{W:World}{nm:Nat}{wn:Option Nat}{fr:Bool}
theorem fF.move{q:LV}{sz:Nat}{f:Nat->List SV}(h:fF ρ W q sz f t)(hz:∀l us,au ρ.zo l us->au XM.zo l us)(hb:∀b u t,q.cap≠0->q.a=some ⟨b,0,none⟩->Zq W b u t->Zq W' b u t)(hn:∀b,q.cap≠0->q.a=some ⟨b,0,none⟩->(∀i c,¬ρ.z b i c)->∀i c,¬XM.z b i c):fF XM W' q sz f t:=
 ⟨h.1,λhc=>let ⟨b,u,k1,k2,k3,k4,k5,k6⟩:=h.2 hc;⟨b,u,k1,hb b _ _ hc k1 k2,k3,k4,hn b hc k1 k5,λi hi=>let ⟨us,q1,q2⟩:=k6 i hi;⟨us,hz _ _ q1,q2⟩⟩⟩
theorem ZB.cont(e:ZB C ρ W nm wn fr XM W')(hb:HB C ρ W){sb:SB}(h:cS ρ W m sb)(hm:wn≠some m):cS XM W' m sb:=by
 have key:∀b,bM ρ m b->W'.heap[b]? = W.heap[b]?:=λb hbm=>e.block b (hb.low m b hbm).2 λn hn ho=>hm (by rw[hn,hb.own n m b ho hbm]);have nz:∀b,bM ρ m b->(∀i c,¬ρ.z b i c)->∀i c,¬XM.z b i c:=λb hbm hz i c h=>by rcases e.nz b i c h with h|h;exact hz i c h;have:=(hb.low m b hbm).2;omega
 cases sb with
 | lay cs t=>
  obtain⟨b,vs,h1,h2,h3,h4,h5⟩:=h;exact⟨b,vs,e.le.n _ _ h1,aK e.le _ _ h2,(key b (.inl h1)).trans h3,h4,nz b (.inl h1) h5⟩
 | lst ep sz N f t=>
  obtain⟨l,h1,h2,h3,h4,h5⟩:=h;refine⟨l,e.le.v _ _ h1,h2,h3,h4,λhc=>?_⟩;obtain⟨b,u,k1,k2,k3,k4,k5,k6⟩:=h5 hc;have ho:bM ρ m b:=.inr (.inl ⟨ep,l,0,h1,h2,hc,k1⟩);exact⟨b,u,k1,(key b ho).trans k2,k3,k4,nz b ho k5,λi hi=>let ⟨us,q1,q2,q3⟩:=k6 i hi;⟨us,aK e.le.zo _ _ q1,q2,q3⟩⟩
 | gone=>trivial
 | nst ep sz N f p Yf g tk t last=>
  obtain⟨l,h⟩:=h;refine⟨l,e.le.v _ _ h.hv,h.ho,h.hN,h.hle,λhc=>?_,λi hi=>?_,λi hi=>(e.nk m i).trans (h.no i hi),λi j q r b h1 h2=>h.ne i j q r b ((e.nk m i).symm.trans h1) ((e.nk m j).symm.trans h2)⟩
  ·obtain⟨b,u,k1,k2,k3,k4,k5,k6,k7,k8⟩:=h.row hc;have ho:bM ρ m b:=.inr (.inl ⟨ep,l,0,h.hv,h.ho,hc,k1⟩);exact⟨b,u,k1,(key b ho).trans k2,k3,k4,nz b ho k5,λi hi=>let ⟨q,us,q1,q2,q3⟩:=k6 i hi;⟨q,us,e.le.k _ _ _ q1,aK e.le.zo _ _ q2,q3⟩,
    λcs Z5=>let ⟨us,q1,q2⟩:=k7 cs Z5;⟨us,aK e.le _ _ q1,q2⟩,λi q b' h1=>k8 i q b' ((e.nk m i).symm.trans h1)⟩
  obtain⟨q,q1,q2,q3,q4⟩:=h.kid i hi;refine⟨q,e.le.k _ _ _ q1,q2,q3,λhc=>?_⟩;obtain⟨b,u,k1,k2,k3,k4,k5,k6⟩:=q4 hc;have ho:bM ρ m b:=.inr (.inr ⟨i,q,0,q1,hc,k1⟩);exact⟨b,u,k1,(key b ho).trans k2,k3,k4,nz b ho k5,λi hi=>let ⟨us,q1,q2,q3⟩:=k6 i hi;⟨us,aK e.le.zo _ _ q1,q2,q3⟩⟩
 | mp k ag has g=>
  obtain⟨b,es,cl,h1,h2,h3,h4⟩:=h;exact⟨b,es,cl,e.le.n _ _ h1,(key b (.inl h1)).trans h2,h3,λx hx=>let ⟨n,q1,q2,u,q3,q4⟩:=h4.keys x hx;⟨n,q1,q2,u,aK e.le.zo _ _ q3,q4⟩,h4.yes⟩
theorem HB.gr(h:HB C ρ W)(g:Gr W W'):HB C ρ W':=
 ⟨h.own,λn b hb=>⟨(h.low n b hb).1,Nat.lt_of_lt_of_le (h.low n b hb).2 g.size⟩,λb i c hz=>⟨g.Mt (h.zok b i c hz).1,(h.zok b i c hz).2⟩,h.grd.gr g⟩
theorem ZB.rm(h:HB C ρ W)(g:Gr W W'):ZB C ρ W nm none false ρ W':=
 ⟨.refl _,λ_ _ h=>.inl h,λ_ _ h=>.inl h,λ_ _ _ h=>.inl h,λ_ _=>rfl,g.os,g.tape,g.output,g.size,λb hb _=>Below.block g b hb,h.gr g⟩
theorem YH.gr{H:List (Nat×SB)}(h:YH C H ρ W)(g:Gr W W'):YH C H ρ W':=
 ⟨h.hb.gr g,λn sb hn=>(ZB.rm (nm:=0) h.hb g).cont h.hb (h.blk n sb hn) (by simp)⟩
end
section
variable {P:Program}{a:Act}{K:Act->World->Prop}{Q:Exit->Act->World->Prop}{dst:Option Tmp}{ty:TypeId}{guard:Option (Nat×Bool)}
theorem Fv : (execOp a.eval ⟨dst,.move x,ty,pos,after,guard⟩).run P w=.ok (.value (a.eval x)) w:=rfl
theorem wZ : (execOp a.eval ⟨dst,.assign x,ty,pos,after,guard⟩).run P w=.ok (.value (a.eval x)) w:=rfl
theorem pn{c y:Operand}{b:Bool}(hc:a.eval c=.bool b) :
  (execOp a.eval ⟨dst,.pick c x y,ty,pos,after,guard⟩).run P w=.ok (.value (if b then a.eval x else a.eval y)) w:=by
 simp only[execOp,hc,asBool,Xz,Xy,Xx]
theorem Lt{z:Value}(hi:P.info? t=some i)(hz:i.zero=some z) :
  (execOp a.eval ⟨dst,.alloc t,ty,pos,after,guard⟩).run P w=.ok (.value (.pointer (some ⟨w.heap.size,0,none⟩))) (w.alloc (.cells z.cells t)):=by
 simp only[execOp,Instr.alloc,zeroValue,typeInfo,Xz,run_program,Xx,hi,Xy,hz,newVar,newRow,run_newObj];rfl
theorem Tp :
  (execOp a.eval ⟨dst,.box t x,ty,pos,after,guard⟩).run P w=.ok (.value (.pointer (some ⟨w.heap.size,0,none⟩))) (w.alloc (.cells (a.eval x).cells t)):=by
 simp only[execOp,Instr.box,Xz,Xx,Xy,newVar,newRow,run_newObj];rfl
theorem AS(hp:a.eval x=.pointer (some p))(hd:P.underlying t=some d)(h1:∀fs,d≠.struct fs)(h2:∀n e,d≠.array n e)(hv:w.cell? p=some v) :
  (execOp a.eval ⟨dst,.load t x,ty,pos,after,guard⟩).run P w=.ok (.value v) w:=by
 simp only[execOp,hp,Instr.loadAt,Instr.sureAddr,loadVar,isAgg,underlying,Xz,run_program,Xx,hd,Xy];cases d<;>first|exact P' rfl (h1 _)|exact P' rfl (h2 _ _)|simp only[Xy,Xx,Bool.false_eq_true,if_false,run_load,hv]
theorem wN(hd:P.underlying t=some d)(h1:(∃fs,d=.struct fs)∨∃n e,d=.array n e):(isAgg t).run P w=.ok true w:=by simp only[isAgg,underlying,Xz,run_program,Xx,hd,Xy];rcases h1 with ⟨fs,rfl⟩|⟨n,e,rfl⟩<;>rfl
theorem Hi(hd:P.underlying t=some d)(h1:∀fs,d≠.struct fs)(h2:∀n e,d≠.array n e):(isAgg t).run P w=.ok false w:=by
 cases d<;>first
  | exact P' rfl (h1 _)
  | exact P' rfl (h2 _ _)
  | simp only[isAgg,underlying,Xz,run_program,Xx,hd,Xy]
theorem AR{cs:List Value}(hp:a.eval x=.pointer (some p))(hi:P.info? t=some i)(hd:P.underlying t=some d)(h1:(∃fs,d=.struct fs)∨∃n e,d=.array n e)(hs:i.size=cs.length)(hv:∀j v,cs[j]? = some v->w.cell? (p.add j)=some v) :
  (execOp a.eval ⟨dst,.load t x,ty,pos,after,guard⟩).run P w=.ok (.value (.agg cs.toArray)) w:=by
 simp only[execOp,hp,Instr.loadAt,Instr.sureAddr,loadVar,Xz,Xx,wN hd h1,Xy,if_true,sizeOf,typeInfo,run_program,hi,hs,run_loadCells_list w p cs hv]
theorem AT{s:TypeId}{fs:Array Field}{f:Field}(hp:a.eval x=.pointer (some p))(hd:P.underlying s=some (.struct fs))(hf:fs[k]? = some f)(hi:P.info? f.type=some i)(hs:i.size≠0) :
  (execOp a.eval ⟨dst,.fieldAddr s x k,ty,pos,after,guard⟩).run P w=.ok (.value (.pointer (some (p.add f.offset)))) w:=by
 simp only[execOp,hp,Instr.fieldAt,Instr.sureAddr,underlying,Xz,run_program,Xx,hd,Xy,hf,fieldPlace,sizeOf,typeInfo,hi,hs,if_false]
theorem iQ{xs:Array Value}(hi:P.info? e=some i)(hd:P.underlying e=some d)(h1:(∃fs,d=.struct fs)∨∃n e,d=.array n e) :
  (part e xs off).run P w=.ok (.agg (xs.extract off (off+i.size))) w:=by
 simp only[part,Xz,wN hd h1,Xx,if_true,sizeOf,typeInfo,run_program,hi,Xy]
theorem ln{xs:Array Value}(hd:P.underlying e=some d)(h1:∀fs,d≠.struct fs)(h2:∀n e,d≠.array n e)(hv:xs[off]? = some v) :
  (part e xs off).run P w=.ok v w:=by
 simp only[part,Xz,Hi hd h1 h2,Xx,Bool.false_eq_true,if_false,hv,Xy]
theorem wY{s:TypeId}{fs:Array Field}{f:Field}{cs:Array Value}(hp:a.eval x=.agg cs)(hd:P.underlying s=some (.struct fs))(hf:fs[k]? = some f)(hv:(part f.type cs f.offset).run P w=.ok v w) :
  (execOp a.eval ⟨dst,.field s x k,ty,pos,after,guard⟩).run P w=.ok (.value v) w:=by
 simp only[execOp,hp,Instr.field,asAgg,underlying,Xz,run_program,Xx,hd,Xy,hf,hv]
theorem iK{yt:TypeId}{y:Operand}(hg:(eqGuard op t x y (a.eval x) (a.eval y)).run P w=.ok () w)(hv:(binOp op t (a.eval x) (a.eval y)).run P w=.ok v w) :
  (execOp a.eval ⟨dst,.binOp op t x y yt,ty,pos,after,guard⟩).run P w=.ok (.value v) w:=by
 simp only[execOp,Xz,hg,hv,Xx,Xy]
theorem AO{op:UnOp}(hv:(Op.unary op (a.eval x)).run P w=.ok v w) :
  (execOp a.eval ⟨dst,.unOp op t x,ty,pos,after,guard⟩).run P w=.ok (.value v) w:=by
 simp only[execOp,Xz,hv,Xx,Xy]
theorem uK{vs:Array Value}(hx:a.eval x=.tuple vs)(hv:vs[k]? = some v) :
  (execOp a.eval ⟨dst,.extract x k,ty,pos,after,guard⟩).run P w=.ok (.value v) w:=by
 simp only[execOp,hx,Instr.extract,hv,Xz,Xx,Xy]
theorem jQ(hx:a.eval x=.pointer (some p)) :
  (execOp a.eval ⟨dst,.nilCheck x,ty,pos,after,guard⟩).run P w=.ok (.value (.pointer (some p))) w:=by
 simp only[execOp,hx,Xy]
theorem rG{fn:Fn}{first captured:Array Operand} :
  (execOp a.eval ⟨dst,.makeFunc fn first captured,ty,pos,after,guard⟩).run P w=.ok (.value (.func fn (first.map a.eval) (captured.map a.eval))) w:=by
 simp only[execOp,Instr.makeFunc,Xz,Xx,Xy]
theorem kH{y:Operand}{k k':IntKind}{n m:Int} : (eqGuard op t x y (.int k n) (.int k' m)).run P w=.ok () w:=by simp only[eqGuard];split<;>rfl
theorem ur{y:Operand}{n m:Bool} : (eqGuard op t x y (.bool n) (.bool m)).run P w=.ok () w:=by simp only[eqGuard];split<;>rfl
end
def eL(P:Program)(w:World)(size m:Nat)(x:Value)(news:List Value):Prop:=news.length=m*size∧∀w':World,(∀b:Nat,b<w.heap.size->w'.heap[b]? = w.heap[b]?)->(Builtin.firstCells size m x).run P w'=.ok news.toArray w'
theorem eF{P:Program}{a:Addr}(hl:news.length=m*size)(h:∀j u,news[j]? = some u->w.cell? (a.add j)=some u):eL P w size m (.slice (some a) len cap) news:=
 ⟨hl,λw' hw=>run_firstCells_some (P:=P) w' size m a len cap news hl λj u hj=>by have h1:=h j u hj;have h2:=hw _ (World.block_lt_of_cell? w _ h1);unfold World.cell? at h1 ⊢;rw[h2];exact h1⟩
theorem jP{P:Program} : eL P w size 0 (.slice none len cap) []:=⟨by simp,λw' _=>run_firstCells_none (P:=P) w' size 0 len cap⟩
theorem lq{P:Program}{ty:TypeId}(ht:P.underlying t=some (.slice e))(hi:P.info? e=some i){g:Nat}{cur:Array Value}(hg:w.heap[g]? = some (.cells cur e (0,0))){a:Option Addr}(hn:eL P w i.size m (.slice a m c) news)(h1:∀u∈news,u.oneCell'=true)(YX:Yg+m<=sCap)(Yo:Yg*i.size+news.length<=cur.size) :
  (Builtin.append_ #[t,t] ty #[.slice (some ⟨g,0,none⟩) Yg sCap,.slice a m c]).run P w =
   .ok (.slice (some ⟨g,0,none⟩) (Yg+m) sCap) (w.setRow g (cur.toList.take (Yg*i.size)++news++cur.toList.drop (Yg*i.size+news.length)).toArray):=by
 have hf:=hn.2 w λ_ _=>rfl;have hadd:(⟨g,0,none⟩:Addr).add (Yg*i.size)=⟨g,Yg*i.size,none⟩:=by unfold Addr.add;split<;>simp_all
 have Ya:=run_storeCells_at (P:=P) g (Yg*i.size) e news 0 cur w hg (by simpa using Yo) h1;simp only[Nat.add_zero] at Ya;simp[Builtin.append_,run_underlying ht,sizeOf,typeInfo,hi,Builtin.lenOf,YX,hf,hadd,Ya]
theorem mn{P:Program}{ty:TypeId}(ht:P.underlying t=some (.slice e))(hi:P.info? e=some i){b a:Option Addr}(hn:eL P w i.size 0 (.slice a 0 c) [])(YX:n<=sCap) :
  (Builtin.append_ #[t,t] ty #[.slice b n sCap,.slice a 0 c]).run P w=.ok (.slice b n sCap) w:=by
 have hf:=hn.2 w λ_ _=>rfl;cases b with
 | none=>simp[Builtin.append_,run_underlying ht,sizeOf,typeInfo,hi,Builtin.lenOf,YX,hf]
 | some b=>simp[Builtin.append_,run_underlying ht,sizeOf,typeInfo,hi,Builtin.lenOf,YX,hf,storeCells]
theorem iR{P:Program}{ty:TypeId}{z:Value}(ht:P.underlying t=some (.slice e))(hi:P.info? e=some i)(hz:i.zero=some z){b:Option Addr}{olds:List Value}(ho:eL P w i.size Yg (.slice b Yg sCap) olds){a:Option Addr}(hn:eL P w i.size n (.slice a n c) news)(hg:sCap<Yg+n)(h63:Yg+n<=maxLen)(hby:(Yg+n)*i.bytes<=140737488355328) :
  (Builtin.append_ #[t,t] ty #[.slice b Yg sCap,.slice a n c]).run P w =
   .ok (.slice (some ⟨w.heap.size,0,none⟩) (Yg+n) (grownCap w (Yg+n) sCap e))
    (w.drew.alloc (.cells (olds.toArray++news.toArray++Builtin.zeroCells z.cells (grownCap w (Yg+n) sCap e-(Yg+n))) e)):=by
 have Yo:=growslice_fits hg hby;have hm:Yg+n<=9223372036854775807:=by simp only[maxLen] at h63;omega
 have YY:¬(Yg+n<=sCap):=by omega
 have h63':¬(9223372036854775807<((Yg:Int)+(n:Int))):=by omega
 have h48':¬(281474976710656<Builtin.nextslicecap (Yg+n) sCap*i.bytes):=by omega
 have hf:=hn.2 w.drew λ_ _=>rfl;have hfo:=ho.2 w.drew λ_ _=>rfl;simp[Builtin.append_,run_underlying ht,sizeOf,typeInfo,zeroValue,hi,hz,Builtin.lenOf,YY,h63',h48',Question.forced,hf,hfo,newRow,grownCap]
 congr 2
 apply Array.ext';simp[List.append_assoc]
section
variable {P:Program}{a:Act}{dst:Option Tmp}{ty:TypeId}{guard:Option (Nat×Bool)}
theorem uJ{i:Operand}{cs:Array Value}(hx:a.eval x=.agg cs)(hi:a.eval i=.int kk (k:Int))(hk:k<len)(hd:P.underlying t=some (.array len e))(XX:P.info? e=some inf)(hv:(part e cs (k*inf.size)).run P w=.ok v w):(execOp a.eval ⟨dst,.index t x i,ty,pos,after,guard⟩).run P w=.ok (.value v) w:=by
 have hc:(0:Int)<=(k:Int)∧(k:Int)<(len:Int):=⟨by omega,by omega⟩
 simp only[execOp,hx,hi,Instr.index,asIntOf,underlying,sizeOf,typeInfo,Xz,Xy,run_program,Xx,hd,XX,Xl hc,Int.toNat_natCast,hv]
theorem jF{i:Operand}{k:Int}{b:Addr}(hx:a.eval x=.slice (some b) len cap)(hi:a.eval i=.int kk k)(hk:0<=k∧k<len)(hd:P.underlying t=some (.slice e))(XX:P.info? e=some inf) :
  (execOp a.eval ⟨dst,.indexAddr t x i,ty,pos,after,guard⟩).run P w=.ok (.value (.pointer (some (b.add (k.toNat*inf.size))))) w:=by
 simp only[execOp,hx,hi,Instr.indexAt,asIntOf,underlying,sizeOf,typeInfo,Xz,Xy,run_program,Xx,hd,XX,Xl hk]
theorem iw{i:Operand}{k:Int}{b:Addr}(hx:a.eval x=.pointer (some b))(hi:a.eval i=.int kk k)(hk:0<=k∧k<len)(hd:P.underlying t=some (.array len e))(XX:P.info? e=some inf) :
  (execOp a.eval ⟨dst,.indexAddr t x i,ty,pos,after,guard⟩).run P w=.ok (.value (.pointer (some (b.add (k.toNat*inf.size))))) w:=by
 simp only[execOp,hx,hi,Instr.indexAt,Instr.sureAddr,asIntOf,underlying,sizeOf,typeInfo,Xz,Xy,run_program,Xx,hd,XX,Xl hk]
theorem aL{low high max:Option Value}{isS:Bool}{l:Nat}(hm:(max=none∧m=cap)∨∃k i,max=some (.int k i)∧0<=i∧i<=cap∧m=i.toNat)(hh:(high=none∧max=none∧h=len)∨∃k i,high=some (.int k i)∧0<=i∧i<=m∧h=i.toNat)(hl:(low=none∧l=0)∨∃k i,low=some (.int k i)∧0<=i∧i<=h∧l=i.toNat) :
  (Instr.sliceBounds isS len cap low high max).run P w=.ok (l,h,m) w:=by
 rcases hm with ⟨rfl,rfl⟩|⟨k,i,rfl,h1,h2,rfl⟩<;>rcases hh with ⟨rfl,h0,rfl⟩|⟨k',i',rfl,h3,h4,rfl⟩<;>rcases hl with ⟨rfl,rfl⟩|⟨k2,i2,rfl,h5,h6,rfl⟩
 all_goals first
  | (simp only[Instr.sliceBounds,Instr.sliceBound,asIntOf,Xz,Xy,Xx,Xl (⟨h1,h2⟩:0<=i∧i<=(_:Int)),Xl (⟨h3,h4⟩:0<=i'∧i'<=(_:Int)),Xl (⟨h5,h6⟩:0<=i2∧i2<=(_:Int))];done)
  | (simp only[Instr.sliceBounds,Instr.sliceBound,asIntOf,Xz,Xy,Xx,Xl (⟨h3,h4⟩:0<=i'∧i'<=(_:Int)),Xl (⟨h5,h6⟩:0<=i2∧i2<=(_:Int))];done)
  | (simp only[Instr.sliceBounds,Instr.sliceBound,asIntOf,Xz,Xy,Xx,Xl (⟨h1,h2⟩:0<=i∧i<=(_:Int)),Xl (⟨h3,h4⟩:0<=i'∧i'<=(_:Int))];done)
  | (simp only[Instr.sliceBounds,Instr.sliceBound,asIntOf,Xz,Xy,Xx,Xl (⟨h3,h4⟩:0<=i'∧i'<=(_:Int))];done)
  | (simp only[Instr.sliceBounds,Instr.sliceBound,asIntOf,Xz,Xy,Xx,Xl (⟨h5,h6⟩:0<=i2∧i2<=(_:Int))];done)
  | (simp only[Instr.sliceBounds,Instr.sliceBound,asIntOf,Xz,Xy,Xx];done)
  | cases h0
theorem cO{low high max:Option Operand}{b:Option Addr}{l:Nat}(hx:a.eval x=.slice b len cap)(hd:P.underlying t=some (.slice e))(XX:P.info? e=some inf)(hb:(Instr.sliceBounds true len cap (low.map a.eval) (high.map a.eval) (max.map a.eval)).run P w=.ok (l,h,m) w) :
  (execOp a.eval ⟨dst,.slice t x low high max,ty,pos,after,guard⟩).run P w=.ok (.value (.slice (if m=l then b else b.map (·.add (l*inf.size))) (h-l) (m-l))) w:=by
 simp only[execOp,hx,Instr.sliceAt,Instr.slice,underlying,sizeOf,typeInfo,Xz,Xy,run_program,Xx,hd,XX,hb]
theorem AP{low high max:Option Operand}{b:Addr}{l:Nat}(hx:a.eval x=.pointer (some b))(hd:P.underlying t=some (.array n e))(XX:P.info? e=some inf)(hb:(Instr.sliceBounds false n n (low.map a.eval) (high.map a.eval) (max.map a.eval)).run P w=.ok (l,h,m) w) :
  (execOp a.eval ⟨dst,.slice t x low high max,ty,pos,after,guard⟩).run P w=.ok (.value (.slice (some (if m=l then b else b.add (l*inf.size))) (h-l) (m-l))) w:=by
 simp only[execOp,hx,Instr.sliceAt,Instr.sureAddr,underlying,sizeOf,typeInfo,Xz,Xy,run_program,Xx,hd,XX,hb]
end
end Go.Proofs.YtmdpdknpapjchaaGreatDoor
