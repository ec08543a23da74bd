/- Small words for all walks. -/
import Derived.Test.YtgigkennhdolpaaGreatDoorProg
import Derived.WalkKit
import Derived.WalkSpells
import Derived.WalkLawsBesides
import Derived.Lib.Hide
import Derived.MapKept
import Derived.OwnWalk
import Derived.Laws.CopyRow
namespace Go.Proofs.YtgigkennhdolpaaGreatDoor
open Go.RowKit
theorem B'(n:Nat):0+n=n:=Nat.zero_add n
theorem E'.{u} {α:Type u}{i:Nat}{b:α}{xs:Array α}:xs[i]? = some b↔∃h,xs[i]=b:=Array.getElem?_eq_some_iff
theorem F'(n:Nat):¬n<0:=Nat.not_lt_zero n
theorem I'(n:Nat):n≤n:=Nat.le_refl n
theorem J'.{u} {α:Type u}{i:Nat}{a:α}{l:List α}:l[i]? = some a↔∃h,l[i]=a:=List.getElem?_eq_some_iff
theorem L'{n m:Nat}(h:Nat.ble n m=true):n≤m:=Nat.le_of_ble_eq_true h
theorem M'.{u} {α:Type u}{a b:List α}{i:Nat}(h:i<a.length):(a++b)[i]? = a[i]?:=List.getElem?_append_left h
theorem O'.{u} {α:Type u}{a b:List α}{i:Nat}(h:a.length≤i):(a++b)[i]? = b[i-a.length]?:=List.getElem?_append_right h
theorem P'.{u,v} {α:Type u}{β:Type v}{a c:α}{b d:β}(h:(a,b)=(c,d)):a=c∧b=d:=Prod.mk.inj h
theorem Uh.{u} {α:Sort u}{p:α→Prop}(w:α)(h:p w):Exists p:=Exists.intro w h
theorem Ui(n:Nat):0≤n:=Nat.zero_le n
theorem Uj.{u} {α:Type u}{xs:Array α}{i:Nat}(h:i<xs.size):xs[i]? = some xs[i]:=Array.getElem?_eq_getElem h
theorem Uk(a b:Bool):((a&&b)=true)=(a=true∧b=true):=Bool.and_eq_true a b
theorem Ul(a b:Bool):((a||b)=true)=(a=true∨b=true):=Bool.or_eq_true a b
theorem Um.{u} {α:Type u}{a:α}{l:List α}:a∈a::l:=List.mem_cons_self
theorem Un.{u} {α:Type u}{xs:Array α}{i j:Nat}(h:i≠j){a:α}:(xs.setIfInBounds i a)[j]? = xs[j]?:=Array.getElem?_setIfInBounds_ne h
theorem Uo.{u,v} {α:Sort u}{β:Sort v}{a b:α}(f:α→β)(h:a=b):f a=f b:=congrArg f h
theorem Up{a b:Prop}(h:a)(k:¬a):b:=absurd h k
theorem Uq{p:Prop}[Decidable p]:(decide p=true)=p:=decide_eq_true_eq
theorem Ur{p:Prop}[i:Decidable p](h:decide p=false):¬p:=of_decide_eq_false h
theorem Us{p:Prop}{_:Decidable p}:decide p=false↔¬p:=decide_eq_false_iff_not
theorem Ut{p:Prop}[Decidable p](h:¬p):decide p=false:=decide_eq_false h
theorem Uu{p:Prop}[i:Decidable p](h:p):decide p=true:=decide_eq_true h
theorem Uv.{u} {c:Prop}{h:Decidable c}(k:¬c){α:Sort u}{t e:α}:(if c then t else e)=e:=if_neg k
theorem Uw.{u} {c:Prop}{h:Decidable c}(k:c){α:Sort u}{t e:α}:(if c then t else e)=t:=if_pos k
theorem Ux.{u} {α:Type u}(y:α){a:α}{l:List α}(h:a∈l):a∈y::l:=List.mem_cons_of_mem y h
theorem Uy.{u} {α:Type u}{l:List α}{i j:Nat}(h:i<j):(l.take j)[i]? = l[i]?:=List.getElem?_take_of_lt h
theorem Uz{n m:Nat}(k:Nat)(h:n≤m):n*k≤m*k:=Nat.mul_le_mul_right k h
theorem UA{x y:Bool}:(x||y)=false↔x=false∧y=false:=Bool.or_eq_false_iff
theorem UB.{u} {α:Type u}{b:α}{l:List α}{a:α}:a∈b::l↔a=b∨a∈l:=List.mem_cons
theorem UC.{u} {α:Type u}{a:α}{s t:List α}:a∈s++t↔a∈s∨a∈t:=List.mem_append
theorem UD{n m:Nat}(h:n≤m):n=m∨n<m:=Nat.eq_or_lt_of_le h
theorem UE.{u} {α:Type u}{l:List α}{i:Nat}(h:i<l.length):l[i]? = some l[i]:=List.getElem?_eq_getElem h
theorem UF.{u} {α:Type u}{l:List α}{i:Nat}{a:α}(e:l[i]? = some a):a∈l:=List.mem_of_getElem? e
theorem UG(a:Nat):Nat.beq a a=true:=Nat.beq_refl a
theorem UH{α β:Type}(a:α)(w:World)(f:α→World→Result β):Result.andThen (Result.ok a w) f=f a w:=Result.andThen_ok a w f
theorem UI{α:Type}(P:Program)(w:World)(a:α):Sem.run P (pure a) w=Result.ok a w:=Sem.run_pure P w a
theorem UJ{α β:Type}(P:Program)(w:World)(x:Sem α)(f:α→Sem β):Sem.run P (x>>=f) w=Result.andThen (Sem.run P x w) fun a w'=>Sem.run P (f a) w':=Sem.run_bind P w x f
theorem UK.{u} {α:Sort u}{a b c:α}(h:a=b)(k:b=c):a=c:=Eq.trans h k
theorem Oi.{u} {α : Type u} {a b : α} (h : some a = some b) : a = b := Option.some.inj h
theorem Ai {a b : Prop} (h : a) (k : b) : a ∧ b := And.intro h k
theorem Nb {a b : Nat} (h : Nat.beq a b = true) : a = b := Nat.eq_of_beq_eq_true h
theorem Od {p : Prop} [Decidable p] (h : decide p = true) : p := of_decide_eq_true h
def Gr(a w:World):Prop:=Below a.heap.size a w
theorem Gr.refl(a:World):Gr a a:=Below.refl _ _
theorem Gr.trans{a b c:World}(h:Gr a b)(k:Gr b c):Gr a c:=Below.trans h (Below.mono k (Below.size h))
theorem Gr.alloc{a w:World}(h:Gr a w)(o:Obj):Gr a (w.alloc o):=Below.alloc h (Below.size h) o
theorem Gr.drew{a w:World}(h:Gr a w):Gr a w.drew:=Below.drew h
theorem Gr.size{a w:World}(h:Gr a w):a.heap.size<=w.heap.size:=Below.size h
theorem Gr.cell{a w:World}(h:Gr a w){p:Addr}(hp:p.block<a.heap.size):w.cell? p=a.cell? p:=Below.cell h hp
theorem Gr.J4{a w:World}(h:Gr a w){p:Addr}{v:Value}(hv:a.cell? p=some v):w.cell? p=some v:=by rw[h.cell (World.block_lt_of_cell? a _ hv)];exact hv
def WV(w:World)(n:Nat)(cs:Array Value)(t:TypeId):Prop:=w.heap[n]? = some (.cells cs t (0,0))
theorem WV.new{w:World}{n:Nat}{cs:Array Value}{t:TypeId}(hn:n=w.heap.size):WV (w.alloc (.cells cs t)) n cs t:=by subst hn;exact heap_alloc_new w _
theorem WV.cell{w:World}{n:Nat}{cs:Array Value}{t:TypeId}(h:WV w n cs t)(k:Nat):w.cell? ⟨n,k,none⟩=cs[k]?:=by have h':w.heap[n]? = some (.cells cs t (0,0)):=h;simp[World.cell?,h']
inductive SV where
 | v (x:Value)
 | il (k:IntKind) (n:Int)
 | bl (b:Bool)
 | p (n off:Nat)
 | s (n sz off len cap:Nat)
 | f (fn:Fn) (first captured:List SV)
 | agg (l:List SV)
 | tup (l:List SV)
 | e
 | rs (sz n:Nat) (f:Nat->List SV)
 | rp (x:List SV) (off:Nat)
 | g (m e sz off n:Nat)
 | gp (m e sz i off:Nat)
 | m (n:Nat)
 | kd (m i sz off n:Nat)
 | kq (m i sz j off:Nat)
structure LV where
 o:Nat
 a:Option Addr
 cap:Nat
 N:Nat
structure Names where
 n:Nat->Option Nat
 v:Nat->Option LV
 k:Nat->Nat->Option LV
 z:Nat->Nat->Value->Prop
  /-- The deferred calls of X5 frame Yu is walked (nothing else reads it). -/
 d:List Deferred
  /-- Blocks Yu are owned under no name. -/
 o:Nat->Prop
def Names.zo(ρ:Names):Names:=⟨λ_=>none,λ_=>none,λ_ _=>none,ρ.z,[],λ_=>False⟩
def Names.VE(ρ:Names):Names:=⟨ρ.n,ρ.v,ρ.k,ρ.z,[],λ_=>False⟩
mutual
def den:Names->SV->Value->Prop
 | _,.v x,y=>y=x
 | _,.il k n,y=>y=.int k n
 | _,.bl b,y=>y=.bool b
 | ρ,.p n off,y=>∃b,ρ.n n=some b∧y=.pointer (some ⟨b,off,none⟩)
 | ρ,.s n _ off len cap,y=>∃b,ρ.n n=some b∧y=.slice (some ⟨b,off,none⟩) len cap
 | ρ,.f fn first captured,y=>∃u w,aj ρ first u∧aj ρ captured w∧y=.func fn u.toArray w.toArray
 | ρ,.agg l,y=>∃u,aj ρ l u∧y=.agg u.toArray
 | ρ,.tup l,y=>∃u,aj ρ l u∧y=.tuple u.toArray
 | _,.e,y=>∃a,y=.slice a 0 0
 | ρ,.rs sz n f,y=>∃a cap,y=.slice a n cap∧n<=cap∧∀i,i<n->∃b o u,a=some ⟨b,o,none⟩∧aj ρ.zo (f i) u∧u.length=sz∧∀k c,u[k]? = some c->ρ.z b (o+i*sz+k) c
 | ρ,.rp x off,y=>∃b o u,y=.pointer (some ⟨b,o+off,none⟩)∧aj ρ.zo x u∧∀k c,u[k]? = some c->ρ.z b (o+k) c
 | ρ,.g m e sz off n,y=>∃l,ρ.v e=some l∧l.o=m∧off+n<=l.N∧l.N<=l.cap∧∃a',y=.slice a' n (l.cap-off)∧(l.cap-off≠0->∃b,l.a=some ⟨b,0,none⟩∧a'=some ⟨b,off*sz,none⟩)
 | ρ,.gp m e sz i off,y=>∃l b,ρ.v e=some l∧l.o=m∧i<l.N∧l.N<=l.cap∧l.a=some ⟨b,0,none⟩∧y=.pointer (some ⟨b,i*sz+off,none⟩)
 | ρ,.m n,y=>∃b,ρ.n n=some b∧y=.map (some b)
 | ρ,.kd m i sz off n,y=>∃l,ρ.k m i=some l∧off+n<=l.N∧l.N<=l.cap∧∃a',y=.slice a' n (l.cap-off)∧(l.cap-off≠0->∃b,l.a=some ⟨b,0,none⟩∧a'=some ⟨b,off*sz,none⟩)
 | ρ,.kq m i sz j off,y=>∃l b,ρ.k m i=some l∧j<l.N∧l.N<=l.cap∧l.a=some ⟨b,0,none⟩∧y=.pointer (some ⟨b,j*sz+off,none⟩)
def aj:Names->List SV->List Value->Prop
 | _,[],y=>y=[]
 | ρ,x::r,y=>∃a b,y=a::b∧den ρ x a∧aj ρ r b
end
structure Names.le (ρ UL:Names):Prop where
 n:∀n b,ρ.n n=some b->UL.n n=some b
 v:∀n b,ρ.v n=some b->UL.v n=some b
 k:∀n i b,ρ.k n i=some b->UL.k n i=some b
 z:∀b i c,ρ.z b i c->UL.z b i c
theorem Names.le.refl(ρ:Names):ρ.le ρ:=⟨λ_ _ h=>h,λ_ _ h=>h,λ_ _ _ h=>h,λ_ _ _ h=>h⟩
theorem Names.le.trans{a b c:Names}(h:a.le b)(k:b.le c):a.le c:=⟨λn m x=>k.n n m (h.n n m x),λn m x=>k.v n m (h.v n m x),λn m y x=>k.k n m y (h.k n m y x),λn m y x=>k.z n m y (h.z n m y x)⟩
theorem Names.le.zo{a b:Names}(h:a.le b):a.zo.le b.zo:=⟨λ_ _ h=>(by cases h),λ_ _ h=>(by cases h),λ_ _ _ h=>(by cases h),h.z⟩
theorem Names.um(a:Names):a.zo.le a:=⟨λ_ _ h=>(by cases h),λ_ _ h=>(by cases h),λ_ _ _ h=>(by cases h),λ_ _ _ h=>h⟩
mutual
theorem bE{ρ UL:Names}(h:ρ.le UL):∀(x:SV) (v:Value),den ρ x v->den UL x v
 | .v x,v,e=>e
 | .il k n,v,e=>e
 | .bl b,v,e=>e
 | .p n off,v,⟨b,e1,e2⟩=>⟨b,h.n _ _ e1,e2⟩
 | .s n sz off len cap,v,⟨b,e1,e2⟩=>⟨b,h.n _ _ e1,e2⟩
 | .f fn first captured,v,⟨u,w,e1,e2,e3⟩=>⟨u,w,aE h _ _ e1,aE h _ _ e2,e3⟩
 | .agg l,v,⟨u,e1,e2⟩=>⟨u,aE h _ _ e1,e2⟩
 | .tup l,v,⟨u,e1,e2⟩=>⟨u,aE h _ _ e1,e2⟩
 | .e,v,e=>e
 | .rs sz n f,v,⟨a,cap,e1,e2,e3⟩=>⟨a,cap,e1,e2,λi hi=>let ⟨b,o,u,k1,k2,k3,k4⟩:=e3 i hi;⟨b,o,u,k1,aE h.zo _ _ k2,k3,λk c hc=>h.z _ _ _ (k4 k c hc)⟩⟩
 | .rp x off,v,⟨b,o,u,e1,e2,e3⟩=>⟨b,o,u,e1,aE h.zo _ _ e2,λk c hc=>h.z _ _ _ (e3 k c hc)⟩
 | .g m e sz off n,v,⟨l,e1,e2⟩=>⟨l,h.v _ _ e1,e2⟩
 | .gp m e sz i off,v,⟨l,b,e1,e2⟩=>⟨l,b,h.v _ _ e1,e2⟩
 | .m n,v,⟨b,e1,e2⟩=>⟨b,h.n _ _ e1,e2⟩
 | .kd m i sz off n,v,⟨l,e1,e2⟩=>⟨l,h.k _ _ _ e1,e2⟩
 | .kq m i sz j off,v,⟨l,b,e1,e2⟩=>⟨l,b,h.k _ _ _ e1,e2⟩
theorem aE{ρ UL:Names}(h:ρ.le UL):∀(l:List SV) (v:List Value),aj ρ l v->aj UL l v
 | [],v,e=>e
 | x::r,v,⟨a,b,e1,e2,e3⟩=>⟨a,b,e1,bE h x a e2,aE h r b e3⟩
end
theorem aJ{ρ:Names}{x:SV}{r:List SV}{l:List Value}(h:aj ρ (x::r) l):∃a b,l=a::b∧den ρ x a∧aj ρ r b:=h
theorem aG{ρ:Names}{x:SV}{r:List SV}{a:Value}{b:List Value}(h:den ρ x a)(k:aj ρ r b):aj ρ (x::r) (a::b):=⟨a,b,rfl,h,k⟩
theorem cd{ρ:Names}{l:List Value}(h:aj ρ [] l):l=[]:=h
theorem ef{ρ:Names} : ∀{l:List SV} {vs:List Value} {i:Nat} {x:SV},aj ρ l vs->l[i]? = some x->∃v,vs[i]? = some v∧den ρ x v
 | [],_,_,_,_,hi=>by simp at hi
 | y::r,vs,0,x,h,hi=>by obtain⟨a,b,rfl,h1,h2⟩:=aJ h;obtain rfl:y=x:=(by simpa using hi);exact⟨a,rfl,h1⟩
 | y::r,vs,i+1,x,h,hi=>by obtain⟨a,b,rfl,h1,h2⟩:=aJ h;obtain⟨v,hv,hd⟩:=ef h2 (by simpa using hi);exact⟨v,by simpa using hv,hd⟩
theorem aB{ρ:Names} : ∀{l:List SV} {vs:List Value},aj ρ l vs->vs.length=l.length
 | [],vs,h=>by rw[cd h];rfl
 | y::r,vs,h=>by obtain⟨a,b,rfl,h1,h2⟩:=aJ h;simp[aB h2]
theorem aZ{ρ:Names} : ∀{l m:List SV} {vs us:List Value},aj ρ l vs->aj ρ m us->aj ρ (l++m) (vs++us)
 | [],m,vs,us,h,k=>by rw[cd h];exact k
 | y::r,m,vs,us,h,k=>by obtain⟨a,b,rfl,h1,h2⟩:=aJ h;exact aG h1 (aZ h2 k)
theorem tp{ρ:Names} : ∀{l:List SV} {vs:List Value} {i:Nat} {x:SV} {v:Value},aj ρ l vs->den ρ x v->aj ρ (l.set i x) (vs.set i v)
 | [],vs,i,x,v,h,hx=>by rw[cd h];rfl
 | y::r,vs,0,x,v,h,hx=>by obtain⟨a,b,rfl,h1,h2⟩:=aJ h;exact aG hx h2
 | y::r,vs,i+1,x,v,h,hx=>by obtain⟨a,b,rfl,h1,h2⟩:=aJ h;exact aG h1 (tp h2 hx)
theorem bP{ρ:Names} : ∀{l:List SV} {vs:List Value} (i:Nat),aj ρ l vs->aj ρ (l.drop i) (vs.drop i)
 | [],vs,i,h=>by rw[cd h];simp[aj]
 | y::r,vs,0,h=>h
 | y::r,vs,i+1,h=>by obtain⟨a,b,rfl,h1,h2⟩:=aJ h;exact bP i h2
theorem cW{ρ:Names} : ∀{l:List SV} {vs:List Value} (i:Nat),aj ρ l vs->aj ρ (l.take i) (vs.take i)
 | [],vs,i,h=>by rw[cd h];simp[aj]
 | y::r,vs,0,h=>by simp[aj]
 | y::r,vs,i+1,h=>by obtain⟨a,b,rfl,h1,h2⟩:=aJ h;exact aG h1 (cW i h2)
def takeN:Nat->List SV->Option (List SV)
 | 0,_=>some []
 | _+1,[]=>none
 | n+1,x::r=>match takeN n r with|some l=>some (x::l)|none=>none
theorem iy{ρ:Names} : ∀{n:Nat} {l m:List SV} {vs:List Value},takeN n l=some m->aj ρ l vs->aj ρ m (vs.take n)∧n<=vs.length
 | 0,l,m,vs,h,hd=>by obtain rfl:[]=m:=(by simpa[takeN] using h);exact⟨rfl,by omega⟩
 | n+1,[],m,vs,h,hd=>by simp[takeN] at h
 | n+1,x::r,m,vs,h,hd=>by
  obtain⟨a,b,rfl,h1,h2⟩:=aJ hd;simp only[takeN] at h;cases hr:takeN n r with
  | none=>rw[hr] at h;cases h
  | some l=>
   rw[hr] at h;obtain rfl:=Option.some.inj h;obtain⟨k1,k2⟩:=iy hr h2;exact⟨by simpa using aG h1 k1,by simp;omega⟩
def laid{α:Type} : List α->Option (List α)
 | []=>some []
 | x::r=>match laid r with|some l=>some (x::l)|none=>none
theorem dj{α:Type} : ∀{l m:List α},laid l=some m->m=l
 | [],m,h=>by simpa[laid] using h.symm
 | x::r,m,h=>by
  simp only[laid] at h;cases hr:laid r with
  | none=>rw[hr] at h;cases h
  | some l=>rw[hr] at h;rw[<-Option.some.inj h,dj hr]
def look{α:Type} : List (Nat×α)->Nat->Option α
 | [],_=>none
 | (m,a)::r,n=>match Nat.beq m n with|true=>some a|false=>look r n
theorem af{α:Type}(l:List (Nat×α))(n:Nat)(a:α):look ((n,a)::l) n=some a:=by simp[look]
theorem ab{α:Type}(l:List (Nat×α)){m n:Nat}(a:α)(h:m≠n):look ((m,a)::l) n=look l n:=by
 have:Nat.beq m n=false:=by
  cases hb:Nat.beq m n with
  | false=>rfl
  | true=>exact absurd (Nat.eq_of_beq_eq_true hb) h
 simp[look,this]
theorem yx{α:Type} : ∀{l:List (Nat×α)} {n:Nat} {a:α},look l n=some a->(n,a)∈l
 | [],_,_,h=>by simp[look] at h
 | (m,b)::r,n,a,h=>by by_cases hm:m=n;subst hm;rw[af] at h;rw[Option.some.inj h];exact List.mem_cons_self;rw[ab r b hm] at h;exact List.mem_cons_of_mem _ (yx h)
inductive TK where
 | prim
 | bool
 | int (k:IntKind)
 | struct (fs:List (Nat×Nat))
 | arr (n e:Nat)
 | sl (e:Nat)
 | mp (k e:Nat)
 | str
 | ptr
def gY:TK->Bool
 | .struct _=>true
 | .arr _ _=>true
 | _=>false
def QX:Value->Bool
 | .agg _=>true
 | _=>false
structure TI where
 sz:Nat
  /-- XA many bytes. -/
 nb:Nat
 k:TK
 z:List SV
  /-- May two of them be compared field by field? -/
 eq:Bool
def rq:Value->SV->Bool
 | .bool a,.bl b=>a==b
 | .int k n,.il k' m=>k==k'&&n==m
 | .pointer none,.v (.pointer none)=>true
 | .slice none a b,.v (.slice none c d)=>a==c&&b==d
 | .nilFunc,.v .nilFunc=>true
 | .nilIface,.v .nilIface=>true
 | .map none,.v (.map none)=>true
 | .string s,.v (.string s')=>s.data.size==0&&s'.data.size==0
 | _,_=>false
theorem Aq{ρ:Names}{x:Value}{y:SV}(h:rq x y=true):den ρ y x:=by unfold rq at h;split at h<;>first|(rename_i s s';obtain⟨s⟩:=s;obtain⟨s'⟩:=s';simp only[Bool.and_eq_true,beq_iff_eq] at h;rw[Array.eq_empty_of_size_eq_zero h.1,Array.eq_empty_of_size_eq_zero h.2];simp[den];done)|simp_all [den]
theorem Ap{x:Value}{y:SV}(h:rq x y=true):x.oneCell'=true:=by unfold rq at h;split at h<;>first|rfl|cases h
def eH:List Value->List SV->Bool
 | [],[]=>true
 | x::r,y::s=>rq x y&&eH r s
 | _,_=>false
theorem cq{ρ:Names} : ∀{l:List Value} {m:List SV},eH l m=true->aj ρ m l
 | [],[],_=>rfl
 | [],y::s,h=>by simp[eH] at h
 | x::r,[],h=>by simp[eH] at h
 | x::r,y::s,h=>by simp only[eH,Bool.and_eq_true] at h;exact aG (Aq h.1) (cq h.2)
theorem lj:∀{l:List Value} {m:List SV},eH l m=true->∀c∈l,c.oneCell'=true
 | [],m,_,c,hc=>by cases hc
 | x::r,[],h,_,_=>by simp[eH] at h
 | x::r,y::s,h,c,hc=>by simp only[eH,Bool.and_eq_true] at h;rcases List.mem_cons.1 hc with rfl|hc;exact Ap h.1;exact lj h.2 c hc
def aR:TypeDesc->TK->Bool
 | .struct fs,.struct l=>(fs.toList.map λf=>(f.offset,f.type))==l
 | .array n e,.arr n' e'=>n==n'&&e==e'
 | .slice e,.sl e'=>e==e'
 | .map k e,.mp k' e'=>k==k'&&e==e'
 | .pointer _,.ptr=>true
 | .struct _,_=>false
 | .array _ _,_=>false
 | .slice _,_=>false
 | .bool,.bool=>true
 | .bool,_=>false
 | .int k,.int k'=>decide (k=k')
 | .int _,_=>false
 | .string,.str=>true
 | _,.prim=>true
 | _,_=>false
def MD(P:Program)(t:Nat):Bool:=
 !P.stoodInHeld t&&!P.eqGuardType P.depth t&&(match P.underlying t with|some (.struct fs)=>fs.toList.all λf=>f.name != "_" | _=>true)
def Ns(P:Program)(x:Nat×TI):Bool:=
 match P.info? x.1,P.underlying x.1 with
 | some i,some d=>i.size==x.2.sz&&i.bytes==x.2.nb&&(match i.zero with|some z=>eH z.cells.toList x.2.z&&(QX z==gY x.2.k)|none=>false)&&aR d x.2.k&&(!x.2.eq||MD P x.1)
 | _,_=>false
structure Ky (P:Program) (t:Nat) (ti:TI):Prop where
 ex:∃i d z,P.info? t=some i∧P.underlying t=some d∧i.size=ti.sz∧i.zero=some z∧eH z.cells.toList ti.z=true∧aR d ti.k=true∧i.bytes=ti.nb
 eq:ti.eq=true->MD P t=true
 ag:∀i z,P.info? t=some i->i.zero=some z->QX z=gY ti.k
theorem BC{P:Program}{t:Nat}{ti:TI}(h:Ns P (t,ti)=true):Ky P t ti:=by
 unfold Ns at h;split at h
 ·rename_i i d hi hd;simp only[Bool.and_eq_true,beq_iff_eq] at h;obtain⟨⟨⟨⟨h1,h5⟩,h2⟩,h3⟩,h4⟩:=h;cases hz:i.zero with
  | none=>rw[hz] at h2;cases h2
  | some z=>
   rw[hz] at h2;simp only[Bool.and_eq_true,beq_iff_eq] at h2;exact⟨⟨i,d,z,hi,hd,h1,hz,h2.1,h3,h5⟩,λhe=>by rw[he] at h4;simpa using h4,λi' z' VT V5=>by rw[hi] at VT;obtain rfl:=Option.some.inj VT;rw[hz] at V5;obtain rfl:=Option.some.inj V5;exact h2.2⟩
 cases h
inductive mN where
 | i (k:IntKind)
 | str
def qD:List UInt8->Nat
 | []=>0
 | b::r=>qD r*256+b.toNat+1
def tq(n:Nat):List UInt8:=if h:n=0 then [] else UInt8.ofNat ((n-1)%256)::tq ((n-1)/256)
termination_by n
decreasing_by omega
theorem DD:∀l,tq (qD l)=l
 | []=>by unfold tq qD;rfl
 | b::r=>by
  have hb:b.toNat<256:=b.toNat_lt;rw[tq,qD,dif_neg (by omega),show qD r*256+b.toNat+1-1=qD r*256+b.toNat by omega,show (qD r*256+b.toNat)%256=b.toNat by omega,show (qD r*256+b.toNat)/256=qD r by omega,DD r]
  congr 1
  exact UInt8.ofNat_toNat
theorem Dv(n:Nat):qD (tq n)=n:=by
 induction n using Nat.strongRecOn with
 | _ n ih=>
  rw[tq];split;rename_i h;rw[h];rfl;rename_i h;rw[qD,ih _ (by omega)];have:(UInt8.ofNat ((n-1)%256)).toNat=(n-1)%256:=(by simp[UInt8.toNat_ofNat]);rw[this];omega
def zz(n:Int):Nat:=if 0<=n then 2*n.toNat else 2*(-n).toNat-1
def zzI(n:Nat):Int:=if n%2=0 then(n/2:Nat) else -((n+1)/2:Nat)
theorem OQ(n:Nat):zz (zzI n)=n:=by unfold zz zzI;split<;>split<;>omega
theorem GL(n:Int):zzI (zz n)=n:=by unfold zz zzI;split<;>split<;>omega
def MH(s:ByteArray):Int:=zzI (qD s.data.toList)
def Jx(n:Int):ByteArray:=⟨(tq (zz n)).toArray⟩
theorem Ff(s:ByteArray):Jx (MH s)=s:=by unfold Jx MH;rw[OQ,DD]
theorem Jw{m n:Int}(h:Jx m=Jx n):m=n:=by
 have h1:(tq (zz m)).toArray=(tq (zz n)).toArray:=congrArg ByteArray.data h;have h2:tq (zz m)=tq (zz n):=by simpa using h1
 have h3:zz m=zz n:=by rw[<-Dv (zz m),h2,Dv]
 rw[<-GL m,h3,GL]
def jw:mN->Int->Value
 | .i k,n=>.int k n
 | .str,n=>.string (Jx n)
theorem IF{k:mN}{m n:Int}(h:jw k m=jw k n):m=n:=by
 cases k with
 | i k=>injection h
 | str=>injection h with h;exact Jw h
inductive SB where
 | lay (cs:List SV) (t:TypeId)
 | lst (e sz N:Nat) (f:Nat->List SV) (t:TypeId)
 | gone
 | nst (e sz N:Nat) (f:Nat->List SV) (p Vb:Nat) (g:Nat->Nat×(Nat->List SV)) (tk t:TypeId) (last:Option (List SV))
 | mp (k:mN) (ag:Bool) (has:Int->Bool) (g:Int->List SV)
structure Cx (P:Program) where
 T:List (Nat×TI)
 G:List (Nat×(List SV×TypeId))
 gm:Nat
 hT:T.all (Ns P)=true
  /-- May Yb starts goroutines be called? -/
 co:Bool:=false
abbrev Cx.P {PP:Program} (_:Cx PP):Program:=PP
theorem Cx.ty{PP:Program}(C:Cx PP){t:Nat}{ti:TI}(h:look C.T t=some ti):Ky C.P t ti:=BC (List.all_eq_true.1 C.hT _ (yx h))
def qS:Names:=⟨λ_=>none,λ_=>none,λ_ _=>none,λ_ _ _=>False,[],λ_=>False⟩
theorem sn(ρ:Names):qS.le ρ:=⟨λ_ _ h=>(by cases h),λ_ _ h=>(by cases h),λ_ _ _ h=>(by cases h),λ_ _ _ h=>h.elim⟩
def Cx.WT{PP:Program}(C:Cx PP)(W:World):Prop:=C.gm<=W.heap.size∧∀b sb,look C.G b=some sb->b<C.gm∧∃vs,aj qS sb.1 vs∧∀(i:Nat) (v:Value),vs[i]? = some v->W.cell? ⟨b,i,none⟩=some v
theorem cell_of_heap{W W':World}{b i:Nat}(h:W'.heap[b]? = W.heap[b]?):W'.cell? ⟨b,i,none⟩=W.cell? ⟨b,i,none⟩:=by unfold World.cell?;simp only;rw[h]
theorem iu{W:World}{b i:Nat}{v:Value}(h:W.cell? ⟨b,i,none⟩=some v):b<W.heap.size:=World.block_lt_of_cell? W (⟨b,i,none⟩:Addr) h
theorem Cx.WT.keep{PP:Program}{C:Cx PP}{W W':World}(h:C.WT W)(hs:W.heap.size<=W'.heap.size)(g:∀b,b<C.gm->W'.heap[b]? = W.heap[b]?):C.WT W':=
 ⟨Nat.le_trans h.1 hs,λb sb hb=>let ⟨h0,vs,h1,h2⟩:=h.2 b sb hb;⟨h0,vs,h1,λi v hv=>(cell_of_heap (g b h0)).trans (h2 i v hv)⟩⟩
theorem Cx.WT.gr{PP:Program}{C:Cx PP}{W W':World}(h:C.WT W)(g:Gr W W'):C.WT W':=h.keep g.size λb hb=>Below.block g b (Nat.lt_of_lt_of_le hb h.1)
def bT(ρ:Names)(n b:Nat):Prop:=ρ.n n=some b∨(∃e l o,ρ.v e=some l∧l.o=n∧l.cap≠0∧l.a=some ⟨b,o,none⟩)∨∃i l o,ρ.k n i=some l∧l.cap≠0∧l.a=some ⟨b,o,none⟩
structure HB {PP:Program} (C:Cx PP) (ρ:Names) (W:World):Prop where
 own:∀n n' b,bT ρ n b->bT ρ n' b->n=n'
 low:∀n b,bT ρ n b->C.gm<=b∧b<W.heap.size
 zok:∀b i c,ρ.z b i c->W.cell? ⟨b,i,none⟩=some c∧c.oneCell'=true
 grd:C.WT W
def DY(ag:Bool)(u:List Value)(v:Value):Prop:=match ag with|true=>v=.agg u.toArray|false=>u=[v]
structure Tc (ρ:Names) (k:mN) (ag:Bool) (has:Int->Bool) (g:Int->List SV) (es:List MapEntry):Prop where
 keys:∀e∈es,∃n,e.key=jw k n∧has n=true∧∃u,aj ρ.zo (g n) u∧DY ag u e.val
 yes:∀n,has n=true->∃e∈es,e.key=jw k n
def eX(ρ:Names)(W:World)(l:LV)(sz:Nat)(f:Nat->List SV)(t:TypeId):Prop:=
 l.N<=l.cap∧(l.cap≠0->∃(b:Nat) (u:List Value),l.a=some ⟨b,0,none⟩∧WV W b u.toArray t∧u.length=l.cap*sz∧(∀c∈u,c.oneCell'=true)∧(∀i c,¬ρ.z b i c) ∧
  ∀i,i<l.N->∃us,aj ρ.zo (f i) us∧us.length=sz∧∀k c,us[k]? = some c->u[i*sz+k]? = some c)
def TR{α:Type} : Option α->Nat
 | none=>0
 | some _=>1
structure Uc (ρ:Names) (W:World) (n e sz N:Nat) (f:Nat->List SV) (p Vb:Nat) (g:Nat->Nat×(Nat->List SV)) (tk t:TypeId) (last:Option (List SV)) (l:LV):Prop where
 hv:ρ.v e=some l
 ho:l.o=n
 hN:l.N=N+TR last
 hle:l.N<=l.cap
 row:l.cap≠0->∃(b:Nat) (u:List Value),l.a=some ⟨b,0,none⟩∧WV W b u.toArray t∧u.length=l.cap*sz∧(∀c∈u,c.oneCell'=true)∧(∀i c,¬ρ.z b i c) ∧
  (∀i,i<N->∃q us,ρ.k n i=some q∧aj ρ.zo ((f i).set p (.v (.slice q.a q.N q.cap))) us∧us.length=sz∧∀k c,us[k]? = some c->u[i*sz+k]? = some c) ∧
  (∀cs,last=some cs->∃us,aj ρ cs us∧us.length=sz∧∀k c,us[k]? = some c->u[N*sz+k]? = some c) ∧
  ∀i q b',ρ.k n i=some q->q.cap≠0->q.a=some ⟨b',0,none⟩->b'≠b
 kid:∀i,i<N->∃q,ρ.k n i=some q∧q.N=(g i).1∧eX ρ W q Vb (g i).2 tk
 no:∀i,N<=i->ρ.k n i=none
 ne:∀i j q r b,ρ.k n i=some q->ρ.k n j=some r->q.cap≠0->r.cap≠0->q.a=some ⟨b,0,none⟩->r.a=some ⟨b,0,none⟩->i=j
def cS(ρ:Names)(W:World)(n:Nat):SB->Prop
 | .lay cs t=>∃b vs,ρ.n n=some b∧aj ρ cs vs∧WV W b vs.toArray t∧(∀c∈vs,c.oneCell'=true)∧∀i c,¬ρ.z b i c
 | .lst e sz N f t=>∃l,ρ.v e=some l∧l.o=n∧l.N=N∧N<=l.cap∧(l.cap≠0->∃(b:Nat) (u:List Value),l.a=some ⟨b,0,none⟩∧WV W b u.toArray t∧u.length=l.cap*sz∧(∀c∈u,c.oneCell'=true)∧(∀i c,¬ρ.z b i c) ∧
   ∀i,i<N->∃us,aj ρ.zo (f i) us∧us.length=sz∧∀k c,us[k]? = some c->u[i*sz+k]? = some c)
 | .gone=>True
 | .nst e sz N f p Vb g tk t last=>∃l,Uc ρ W n e sz N f p Vb g tk t last l
 | .mp k ag has g=>∃b es cl,ρ.n n=some b∧W.heap[b]? = some (.map es cl)∧Go.MapKept.Stamped es cl∧Tc ρ k ag has g es.toList
structure VQ {PP:Program} (C:Cx PP) (H:List (Nat×SB)) (ρ:Names) (W:World):Prop where
 hb:HB C ρ W
 blk:∀n sb,look H n=some sb->cS ρ W n sb
structure WZ {PP:Program} (C:Cx PP) (ρ:Names) (W:World) (nm:Nat) (wn:Option Nat) (fr:Bool) (UL:Names) (W':World):Prop where
 le:ρ.le UL
 nn:∀n b,UL.n n=some b->ρ.n n=some b∨(n=nm∧fr=true∧wn=some n∧W.heap.size<=b)
 nv:∀e l,UL.v e=some l->ρ.v e=some l∨(e=nm∧fr=true∧wn=some l.o∧∀b o,l.a=some ⟨b,o,none⟩->l.cap≠0->bT ρ l.o b∨W.heap.size<=b)
 nz:∀b i c,UL.z b i c->ρ.z b i c∨W.heap.size<=b
 nk:∀m i,UL.k m i=ρ.k m i
 os:W'.os=W.os
 tape:W'.tape=W.tape
 output:W'.output=W.output
 size:W.heap.size<=W'.heap.size
 block:∀b,b<W.heap.size->(∀n,wn=some n->¬bT ρ n b)->W'.heap[b]? = W.heap[b]?
 hb:HB C UL W'
section
variable {PP:Program}{C:Cx PP}{ρ UL:Names}{W W':World}{nm:Nat}{wn:Option Nat}{fr:Bool}
theorem eX.move{q:LV}{sz:Nat}{f:Nat->List SV}{t:TypeId}(h:eX ρ W q sz f t)(hz:∀l us,aj ρ.zo l us->aj UL.zo l us)(hb:∀b u t,q.cap≠0->q.a=some ⟨b,0,none⟩->WV W b u t->WV W' b u t)(hn:∀b,q.cap≠0->q.a=some ⟨b,0,none⟩->(∀i c,¬ρ.z b i c)->∀i c,¬UL.z b i c):eX UL W' q sz f t:=
 ⟨h.1,λhc=>let ⟨b,u,k1,k2,k3,k4,k5,k6⟩:=h.2 hc;⟨b,u,k1,hb b _ _ hc k1 k2,k3,k4,hn b hc k1 k5,λi hi=>let ⟨us,q1,q2⟩:=k6 i hi;⟨us,hz _ _ q1,q2⟩⟩⟩
theorem WZ.cont(e:WZ C ρ W nm wn fr UL W')(hb:HB C ρ W){m:Nat}{sb:SB}(h:cS ρ W m sb)(hm:wn≠some m):cS UL W' m sb:=by
 have key:∀b,bT ρ m b->W'.heap[b]? = W.heap[b]?:=λb hbm=>e.block b (hb.low m b hbm).2 λn hn ho=>hm (by rw[hn,hb.own n m b ho hbm]);have nz:∀b,bT ρ m b->(∀i c,¬ρ.z b i c)->∀i c,¬UL.z b i c:=λb hbm hz i c h=>by rcases e.nz b i c h with h|h;exact hz i c h;have:=(hb.low m b hbm).2;omega
 cases sb with
 | lay cs t=>
  obtain⟨b,vs,h1,h2,h3,h4,h5⟩:=h;exact⟨b,vs,e.le.n _ _ h1,aE e.le _ _ h2,(key b (.inl h1)).trans h3,h4,nz b (.inl h1) h5⟩
 | lst ep sz N f t=>
  obtain⟨l,h1,h2,h3,h4,h5⟩:=h;refine⟨l,e.le.v _ _ h1,h2,h3,h4,λhc=>?_⟩;obtain⟨b,u,k1,k2,k3,k4,k5,k6⟩:=h5 hc;have ho:bT ρ m b:=.inr (.inl ⟨ep,l,0,h1,h2,hc,k1⟩);exact⟨b,u,k1,(key b ho).trans k2,k3,k4,nz b ho k5,λi hi=>let ⟨us,q1,q2,q3⟩:=k6 i hi;⟨us,aE e.le.zo _ _ q1,q2,q3⟩⟩
 | gone=>trivial
 | nst ep sz N f p Vb g tk t last=>
  obtain⟨l,h⟩:=h;refine⟨l,e.le.v _ _ h.hv,h.ho,h.hN,h.hle,λhc=>?_,λi hi=>?_,λi hi=>(e.nk m i).trans (h.no i hi),λi j q r b h1 h2=>h.ne i j q r b ((e.nk m i).symm.trans h1) ((e.nk m j).symm.trans h2)⟩
  ·obtain⟨b,u,k1,k2,k3,k4,k5,k6,k7,k8⟩:=h.row hc;have ho:bT ρ m b:=.inr (.inl ⟨ep,l,0,h.hv,h.ho,hc,k1⟩);exact⟨b,u,k1,(key b ho).trans k2,k3,k4,nz b ho k5,λi hi=>let ⟨q,us,q1,q2,q3⟩:=k6 i hi;⟨q,us,e.le.k _ _ _ q1,aE e.le.zo _ _ q2,q3⟩,
    λcs Xm=>let ⟨us,q1,q2⟩:=k7 cs Xm;⟨us,aE e.le _ _ q1,q2⟩,λi q b' h1=>k8 i q b' ((e.nk m i).symm.trans h1)⟩
  obtain⟨q,q1,q2,q3,q4⟩:=h.kid i hi;refine⟨q,e.le.k _ _ _ q1,q2,q3,λhc=>?_⟩;obtain⟨b,u,k1,k2,k3,k4,k5,k6⟩:=q4 hc;have ho:bT ρ m b:=.inr (.inr ⟨i,q,0,q1,hc,k1⟩);exact⟨b,u,k1,(key b ho).trans k2,k3,k4,nz b ho k5,λi hi=>let ⟨us,q1,q2,q3⟩:=k6 i hi;⟨us,aE e.le.zo _ _ q1,q2,q3⟩⟩
 | mp k ag has g=>
  obtain⟨b,es,cl,h1,h2,h3,h4⟩:=h;exact⟨b,es,cl,e.le.n _ _ h1,(key b (.inl h1)).trans h2,h3,λx hx=>let ⟨n,q1,q2,u,q3,q4⟩:=h4.keys x hx;⟨n,q1,q2,u,aE e.le.zo _ _ q3,q4⟩,h4.yes⟩
theorem HB.gr(h:HB C ρ W)(g:Gr W W'):HB C ρ W':=
 ⟨h.own,λn b hb=>⟨(h.low n b hb).1,Nat.lt_of_lt_of_le (h.low n b hb).2 g.size⟩,λb i c hz=>⟨g.J4 (h.zok b i c hz).1,(h.zok b i c hz).2⟩,h.grd.gr g⟩
theorem WZ.uK(h:HB C ρ W)(g:Gr W W'):WZ C ρ W nm none false ρ W':=
 ⟨.refl _,λ_ _ h=>.inl h,λ_ _ h=>.inl h,λ_ _ _ h=>.inl h,λ_ _=>rfl,g.os,g.tape,g.output,g.size,λb hb _=>Below.block g b hb,h.gr g⟩
theorem VQ.gr{H:List (Nat×SB)}(h:VQ C H ρ W)(g:Gr W W'):VQ C H ρ W':=
 ⟨h.hb.gr g,λn sb hn=>(WZ.uK (nm:=0) h.hb g).cont h.hb (h.blk n sb hn) (by simp)⟩
end
section
variable {P:Program}{a:Act}{w:World}{K:Act->World->Prop}{Q:Exit->Act->World->Prop}{dst:Option Tmp}{ty:TypeId}{pos:String}{after:Array Edge}{guard:Option (Nat×Bool)}
theorem Dq{x:Operand} : (execOp a.eval ⟨dst,.move x,ty,pos,after,guard⟩).run P w=.ok (.value (a.eval x)) w:=rfl
theorem va{x:Operand} : (execOp a.eval ⟨dst,.assign x,ty,pos,after,guard⟩).run P w=.ok (.value (a.eval x)) w:=rfl
theorem oz{c x y:Operand}{b:Bool}(hc:a.eval c=.bool b) :
  (execOp a.eval ⟨dst,.pick c x y,ty,pos,after,guard⟩).run P w=.ok (.value (if b then a.eval x else a.eval y)) w:=by
 simp only[execOp,hc,asBool,Sem.run_bind,Sem.run_pure,Result.andThen_ok]
theorem Jf{t:TypeId}{i:TypeInfo}{z:Value}(hi:P.info? t=some i)(hz:i.zero=some z) :
  (execOp a.eval ⟨dst,.alloc t,ty,pos,after,guard⟩).run P w=.ok (.value (.pointer (some ⟨w.heap.size,0,none⟩))) (w.alloc (.cells z.cells t)):=by
 simp only[execOp,Instr.alloc,zeroValue,typeInfo,Sem.run_bind,run_program,Result.andThen_ok,hi,Sem.run_pure,hz,newVar,newRow,run_newObj];rfl
theorem Ql{t:TypeId}{x:Operand} :
  (execOp a.eval ⟨dst,.box t x,ty,pos,after,guard⟩).run P w=.ok (.value (.pointer (some ⟨w.heap.size,0,none⟩))) (w.alloc (.cells (a.eval x).cells t)):=by
 simp only[execOp,Instr.box,Sem.run_bind,Result.andThen_ok,Sem.run_pure,newVar,newRow,run_newObj];rfl
theorem zc{t:TypeId}{x:Operand}{d:TypeDesc}{p:Addr}{v:Value}(hp:a.eval x=.pointer (some p))(hd:P.underlying t=some d)(h1:∀fs,d≠.struct fs)(h2:∀n e,d≠.array n e)(hv:w.cell? p=some v) :
  (execOp a.eval ⟨dst,.load t x,ty,pos,after,guard⟩).run P w=.ok (.value v) w:=by
 simp only[execOp,hp,Instr.loadAt,Instr.sureAddr,loadVar,isAgg,underlying,Sem.run_bind,run_program,Result.andThen_ok,hd,Sem.run_pure];cases d<;>first|exact absurd rfl (h1 _)|exact absurd rfl (h2 _ _)|simp only[Sem.run_pure,Result.andThen_ok,Bool.false_eq_true,if_false,run_load,hv]
theorem uU{t:TypeId}{d:TypeDesc}(hd:P.underlying t=some d)(h1:(∃fs,d=.struct fs)∨∃n e,d=.array n e):(isAgg t).run P w=.ok true w:=by simp only[isAgg,underlying,Sem.run_bind,run_program,Result.andThen_ok,hd,Sem.run_pure];rcases h1 with ⟨fs,rfl⟩|⟨n,e,rfl⟩<;>rfl
theorem EZ{t:TypeId}{d:TypeDesc}(hd:P.underlying t=some d)(h1:∀fs,d≠.struct fs)(h2:∀n e,d≠.array n e):(isAgg t).run P w=.ok false w:=by
 cases d<;>first
  | exact absurd rfl (h1 _)
  | exact absurd rfl (h2 _ _)
  | simp only[isAgg,underlying,Sem.run_bind,run_program,Result.andThen_ok,hd,Sem.run_pure]
theorem za{t:TypeId}{x:Operand}{d:TypeDesc}{i:TypeInfo}{p:Addr}{cs:List Value}(hp:a.eval x=.pointer (some p))(hi:P.info? t=some i)(hd:P.underlying t=some d)(h1:(∃fs,d=.struct fs)∨∃n e,d=.array n e)
  (hs:i.size=cs.length) (hv:∀j v,cs[j]? = some v->w.cell? (p.add j)=some v) :
  (execOp a.eval ⟨dst,.load t x,ty,pos,after,guard⟩).run P w=.ok (.value (.agg cs.toArray)) w:=by
 simp only[execOp,hp,Instr.loadAt,Instr.sureAddr,loadVar,Sem.run_bind,Result.andThen_ok,uU hd h1,Sem.run_pure,if_true,sizeOf,typeInfo,run_program,hi,hs,run_loadCells_list w p cs hv]
theorem zd{s:TypeId}{x:Operand}{k:Nat}{fs:Array Field}{f:Field}{i:TypeInfo}{p:Addr}(hp:a.eval x=.pointer (some p))(hd:P.underlying s=some (.struct fs))(hf:fs[k]? = some f)(hi:P.info? f.type=some i)(hs:i.size≠0) :
  (execOp a.eval ⟨dst,.fieldAddr s x k,ty,pos,after,guard⟩).run P w=.ok (.value (.pointer (some (p.add f.offset)))) w:=by
 simp only[execOp,hp,Instr.fieldAt,Instr.sureAddr,underlying,Sem.run_bind,run_program,Result.andThen_ok,hd,Sem.run_pure,hf,fieldPlace,sizeOf,typeInfo,hi,hs,if_false]
theorem hU{e:TypeId}{i:TypeInfo}{d:TypeDesc}{xs:Array Value}{off:Nat}(hi:P.info? e=some i)(hd:P.underlying e=some d)(h1:(∃fs,d=.struct fs)∨∃n e,d=.array n e) :
  (part e xs off).run P w=.ok (.agg (xs.extract off (off+i.size))) w:=by
 simp only[part,Sem.run_bind,uU hd h1,Result.andThen_ok,if_true,sizeOf,typeInfo,run_program,hi,Sem.run_pure]
theorem kB{e:TypeId}{d:TypeDesc}{xs:Array Value}{off:Nat}{v:Value}(hd:P.underlying e=some d)(h1:∀fs,d≠.struct fs)(h2:∀n e,d≠.array n e)(hv:xs[off]? = some v) :
  (part e xs off).run P w=.ok v w:=by
 simp only[part,Sem.run_bind,EZ hd h1 h2,Result.andThen_ok,Bool.false_eq_true,if_false,hv,Sem.run_pure]
theorem u9{s:TypeId}{x:Operand}{k:Nat}{fs:Array Field}{f:Field}{cs:Array Value}{v:Value}(hp:a.eval x=.agg cs)(hd:P.underlying s=some (.struct fs))(hf:fs[k]? = some f)(hv:(part f.type cs f.offset).run P w=.ok v w) :
  (execOp a.eval ⟨dst,.field s x k,ty,pos,after,guard⟩).run P w=.ok (.value v) w:=by
 simp only[execOp,hp,Instr.field,asAgg,underlying,Sem.run_bind,run_program,Result.andThen_ok,hd,Sem.run_pure,hf,hv]
theorem gW{op:BinOp}{t yt:TypeId}{x y:Operand}{v:Value}(hg:(eqGuard op t x y (a.eval x) (a.eval y)).run P w=.ok () w)(hv:(binOp op t (a.eval x) (a.eval y)).run P w=.ok v w) :
  (execOp a.eval ⟨dst,.binOp op t x y yt,ty,pos,after,guard⟩).run P w=.ok (.value v) w:=by
 simp only[execOp,Sem.run_bind,hg,hv,Result.andThen_ok,Sem.run_pure]
theorem Dp{op:UnOp}{t:TypeId}{x:Operand}{v:Value}(hv:(Op.unary op (a.eval x)).run P w=.ok v w) :
  (execOp a.eval ⟨dst,.unOp op t x,ty,pos,after,guard⟩).run P w=.ok (.value v) w:=by
 simp only[execOp,Sem.run_bind,hv,Result.andThen_ok,Sem.run_pure]
theorem sV{x:Operand}{k:Nat}{vs:Array Value}{v:Value}(hx:a.eval x=.tuple vs)(hv:vs[k]? = some v) :
  (execOp a.eval ⟨dst,.extract x k,ty,pos,after,guard⟩).run P w=.ok (.value v) w:=by
 simp only[execOp,hx,Instr.extract,hv,Sem.run_bind,Result.andThen_ok,Sem.run_pure]
theorem ji{x:Operand}{p:Addr}(hx:a.eval x=.pointer (some p)) :
  (execOp a.eval ⟨dst,.nilCheck x,ty,pos,after,guard⟩).run P w=.ok (.value (.pointer (some p))) w:=by
 simp only[execOp,hx,Sem.run_pure]
theorem qo{fn:Fn}{first captured:Array Operand} :
  (execOp a.eval ⟨dst,.makeFunc fn first captured,ty,pos,after,guard⟩).run P w=.ok (.value (.func fn (first.map a.eval) (captured.map a.eval))) w:=by
 simp only[execOp,Instr.makeFunc,Sem.run_bind,Result.andThen_ok,Sem.run_pure]
theorem jP{op:BinOp}{t:TypeId}{x y:Operand}{k k':IntKind}{n m:Int} : (eqGuard op t x y (.int k n) (.int k' m)).run P w=.ok () w:=by simp only[eqGuard];split<;>rfl
theorem sH{op:BinOp}{t:TypeId}{x y:Operand}{n m:Bool} : (eqGuard op t x y (.bool n) (.bool m)).run P w=.ok () w:=by simp only[eqGuard];split<;>rfl
end
def eY(P:Program)(w:World)(size m:Nat)(x:Value)(news:List Value):Prop:=news.length=m*size∧∀w':World,(∀b:Nat,b<w.heap.size->w'.heap[b]? = w.heap[b]?)->(Builtin.firstCells size m x).run P w'=.ok news.toArray w'
theorem dU{P:Program}{w:World}{size m:Nat}{a:Addr}{len cap:Nat}{news:List Value}(hl:news.length=m*size)(h:∀j u,news[j]? = some u->w.cell? (a.add j)=some u):eY P w size m (.slice (some a) len cap) news:=
 ⟨hl,λw' hw=>run_firstCells_some (P:=P) w' size m a len cap news hl λj u hj=>by have h1:=h j u hj;have h2:=hw _ (World.block_lt_of_cell? w _ h1);unfold World.cell? at h1 ⊢;rw[h2];exact h1⟩
theorem jh{P:Program}{w:World}{size len cap:Nat} : eY P w size 0 (.slice none len cap) []:=⟨by simp,λw' _=>run_firstCells_none (P:=P) w' size 0 len cap⟩
theorem n8{P:Program}{w:World}{t ty e:TypeId}{i:TypeInfo}(ht:P.underlying t=some (.slice e))(hi:P.info? e=some i){g VO sCap:Nat}{cur:Array Value}(hg:w.heap[g]? = some (.cells cur e (0,0)))
  {a:Option Addr} {m c:Nat} {news:List Value} (hn:eY P w i.size m (.slice a m c) news) (h1:∀u∈news,u.oneCell'=true) (VZ:VO+m<=sCap) (Vn:VO*i.size+news.length<=cur.size) :
  (Builtin.append_ #[t,t] ty #[.slice (some ⟨g,0,none⟩) VO sCap,.slice a m c]).run P w =
   .ok (.slice (some ⟨g,0,none⟩) (VO+m) sCap) (w.setRow g (cur.toList.take (VO*i.size)++news++cur.toList.drop (VO*i.size+news.length)).toArray):=by
 have hf:=hn.2 w λ_ _=>rfl;have hadd:(⟨g,0,none⟩:Addr).add (VO*i.size)=⟨g,VO*i.size,none⟩:=by unfold Addr.add;split<;>simp_all
 have U4:=run_storeCells_at (P:=P) g (VO*i.size) e news 0 cur w hg (by simpa using Vn) h1;simp only[Nat.add_zero] at U4;simp[Builtin.append_,run_underlying ht,sizeOf,typeInfo,hi,Builtin.lenOf,VZ,hf,hadd,U4]
theorem p8{P:Program}{w:World}{t ty e:TypeId}{i:TypeInfo}(ht:P.underlying t=some (.slice e))(hi:P.info? e=some i){b a:Option Addr}{sCap c:Nat}{n:Nat}
  (hn:eY P w i.size 0 (.slice a 0 c) []) (VZ:n<=sCap) :
  (Builtin.append_ #[t,t] ty #[.slice b n sCap,.slice a 0 c]).run P w=.ok (.slice b n sCap) w:=by
 have hf:=hn.2 w λ_ _=>rfl;cases b with
 | none=>simp[Builtin.append_,run_underlying ht,sizeOf,typeInfo,hi,Builtin.lenOf,VZ,hf]
 | some b=>simp[Builtin.append_,run_underlying ht,sizeOf,typeInfo,hi,Builtin.lenOf,VZ,hf,storeCells]
theorem ia{P:Program}{w:World}{t ty e:TypeId}{i:TypeInfo}{z:Value}(ht:P.underlying t=some (.slice e))(hi:P.info? e=some i)(hz:i.zero=some z)
  {b:Option Addr} {VO sCap:Nat} {olds:List Value} (ho:eY P w i.size VO (.slice b VO sCap) olds)
  {a:Option Addr} {n c:Nat} {news:List Value} (hn:eY P w i.size n (.slice a n c) news)
  (hg:sCap<VO+n) (h63:VO+n<=maxLen) (Z7:(VO+n)*i.bytes<=140737488355328) :
  (Builtin.append_ #[t,t] ty #[.slice b VO sCap,.slice a n c]).run P w =
   .ok (.slice (some ⟨w.heap.size,0,none⟩) (VO+n) (grownCap w (VO+n) sCap e))
    (w.drew.alloc (.cells (olds.toArray++news.toArray++Builtin.zeroCells z.cells (grownCap w (VO+n) sCap e-(VO+n))) e)):=by
 have Vn:=growslice_fits hg Z7;have hm:VO+n<=9223372036854775807:=by simp only[maxLen] at h63;omega
 have V0:¬(VO+n<=sCap):=by omega
 have h63':¬(9223372036854775807<((VO:Int)+(n:Int))):=by omega
 have h48':¬(281474976710656<Builtin.nextslicecap (VO+n) sCap*i.bytes):=by omega
 have hf:=hn.2 w.drew λ_ _=>rfl;have hfo:=ho.2 w.drew λ_ _=>rfl;simp[Builtin.append_,run_underlying ht,sizeOf,typeInfo,zeroValue,hi,hz,Builtin.lenOf,V0,h63',h48',Question.forced,hf,hfo,newRow,grownCap]
 congr 2
 apply Array.ext';simp[List.append_assoc]
section
variable {P:Program}{a:Act}{w:World}{dst:Option Tmp}{ty:TypeId}{pos:String}{after:Array Edge}{guard:Option (Nat×Bool)}
theorem sU{t e:TypeId}{x i:Operand}{k:Nat}{len:Nat}{cs:Array Value}{v:Value}{inf:TypeInfo}{kk:IntKind}(hx:a.eval x=.agg cs)(hi:a.eval i=.int kk (k:Int))(hk:k<len)(hd:P.underlying t=some (.array len e))(UX:P.info? e=some inf)
  (hv:(part e cs (k*inf.size)).run P w=.ok v w):(execOp a.eval ⟨dst,.index t x i,ty,pos,after,guard⟩).run P w=.ok (.value v) w:=by
 have hc:(0:Int)<=(k:Int)∧(k:Int)<(len:Int):=⟨by omega,by omega⟩
 simp only[execOp,hx,hi,Instr.index,asIntOf,underlying,sizeOf,typeInfo,Sem.run_bind,Sem.run_pure,run_program,Result.andThen_ok,hd,UX,if_pos hc,Int.toNat_natCast,hv]
theorem iU{t e:TypeId}{x i:Operand}{k:Int}{len cap:Nat}{b:Addr}{inf:TypeInfo}{kk:IntKind}(hx:a.eval x=.slice (some b) len cap)(hi:a.eval i=.int kk k)(hk:0<=k∧k<len)(hd:P.underlying t=some (.slice e))(UX:P.info? e=some inf) :
  (execOp a.eval ⟨dst,.indexAddr t x i,ty,pos,after,guard⟩).run P w=.ok (.value (.pointer (some (b.add (k.toNat*inf.size))))) w:=by
 simp only[execOp,hx,hi,Instr.indexAt,asIntOf,underlying,sizeOf,typeInfo,Sem.run_bind,Sem.run_pure,run_program,Result.andThen_ok,hd,UX,if_pos hk]
theorem gL{t e:TypeId}{x i:Operand}{k:Int}{len:Nat}{b:Addr}{inf:TypeInfo}{kk:IntKind}(hx:a.eval x=.pointer (some b))(hi:a.eval i=.int kk k)(hk:0<=k∧k<len)(hd:P.underlying t=some (.array len e))(UX:P.info? e=some inf) :
  (execOp a.eval ⟨dst,.indexAddr t x i,ty,pos,after,guard⟩).run P w=.ok (.value (.pointer (some (b.add (k.toNat*inf.size))))) w:=by
 simp only[execOp,hx,hi,Instr.indexAt,Instr.sureAddr,asIntOf,underlying,sizeOf,typeInfo,Sem.run_bind,Sem.run_pure,run_program,Result.andThen_ok,hd,UX,if_pos hk]
theorem aX{low high max:Option Value}{isS:Bool}{len cap:Nat}{l h m:Nat}(hm:(max=none∧m=cap)∨∃k i,max=some (.int k i)∧0<=i∧i<=cap∧m=i.toNat)
  (hh:(high=none∧max=none∧h=len)∨∃k i,high=some (.int k i)∧0<=i∧i<=m∧h=i.toNat) (hl:(low=none∧l=0)∨∃k i,low=some (.int k i)∧0<=i∧i<=h∧l=i.toNat) :
  (Instr.sliceBounds isS len cap low high max).run P w=.ok (l,h,m) w:=by
 rcases hm with ⟨rfl,rfl⟩|⟨k,i,rfl,h1,h2,rfl⟩<;>rcases hh with ⟨rfl,h0,rfl⟩|⟨k',i',rfl,h3,h4,rfl⟩<;>rcases hl with ⟨rfl,rfl⟩|⟨k2,i2,rfl,h5,h6,rfl⟩
 all_goals first
  | (simp only[Instr.sliceBounds,Instr.sliceBound,asIntOf,Sem.run_bind,Sem.run_pure,Result.andThen_ok,if_pos (⟨h1,h2⟩:0<=i∧i<=(_:Int)),if_pos (⟨h3,h4⟩:0<=i'∧i'<=(_:Int)),if_pos (⟨h5,h6⟩:0<=i2∧i2<=(_:Int))];done)
  | (simp only[Instr.sliceBounds,Instr.sliceBound,asIntOf,Sem.run_bind,Sem.run_pure,Result.andThen_ok,if_pos (⟨h3,h4⟩:0<=i'∧i'<=(_:Int)),if_pos (⟨h5,h6⟩:0<=i2∧i2<=(_:Int))];done)
  | (simp only[Instr.sliceBounds,Instr.sliceBound,asIntOf,Sem.run_bind,Sem.run_pure,Result.andThen_ok,if_pos (⟨h1,h2⟩:0<=i∧i<=(_:Int)),if_pos (⟨h3,h4⟩:0<=i'∧i'<=(_:Int))];done)
  | (simp only[Instr.sliceBounds,Instr.sliceBound,asIntOf,Sem.run_bind,Sem.run_pure,Result.andThen_ok,if_pos (⟨h3,h4⟩:0<=i'∧i'<=(_:Int))];done)
  | (simp only[Instr.sliceBounds,Instr.sliceBound,asIntOf,Sem.run_bind,Sem.run_pure,Result.andThen_ok,if_pos (⟨h5,h6⟩:0<=i2∧i2<=(_:Int))];done)
  | (simp only[Instr.sliceBounds,Instr.sliceBound,asIntOf,Sem.run_bind,Sem.run_pure,Result.andThen_ok];done)
  | cases h0
theorem dq{t e:TypeId}{x:Operand}{low high max:Option Operand}{b:Option Addr}{len cap l h m:Nat}{inf:TypeInfo}(hx:a.eval x=.slice b len cap)(hd:P.underlying t=some (.slice e))(UX:P.info? e=some inf)
  (hb:(Instr.sliceBounds true len cap (low.map a.eval) (high.map a.eval) (max.map a.eval)).run P w=.ok (l,h,m) w) :
  (execOp a.eval ⟨dst,.slice t x low high max,ty,pos,after,guard⟩).run P w=.ok (.value (.slice (if m=l then b else b.map (·.add (l*inf.size))) (h-l) (m-l))) w:=by
 simp only[execOp,hx,Instr.sliceAt,Instr.slice,underlying,sizeOf,typeInfo,Sem.run_bind,Sem.run_pure,run_program,Result.andThen_ok,hd,UX,hb]
theorem y8{t e:TypeId}{x:Operand}{low high max:Option Operand}{b:Addr}{n l h m:Nat}{inf:TypeInfo}(hx:a.eval x=.pointer (some b))(hd:P.underlying t=some (.array n e))(UX:P.info? e=some inf)
  (hb:(Instr.sliceBounds false n n (low.map a.eval) (high.map a.eval) (max.map a.eval)).run P w=.ok (l,h,m) w) :
  (execOp a.eval ⟨dst,.slice t x low high max,ty,pos,after,guard⟩).run P w=.ok (.value (.slice (some (if m=l then b else b.add (l*inf.size))) (h-l) (m-l))) w:=by
 simp only[execOp,hx,Instr.sliceAt,Instr.sureAddr,underlying,sizeOf,typeInfo,Sem.run_bind,Sem.run_pure,run_program,Result.andThen_ok,hd,UX,hb]
end
end Go.Proofs.YtgigkennhdolpaaGreatDoor
