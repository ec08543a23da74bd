/- A symbolic executor with lists. -/
import Derived.Test.YtmdpdknpapjchaaGreatDoorM9
set_option linter.all false
namespace Go.Proofs.YtmdpdknpapjchaaGreatDoor
open Go.RowKit
variable {PP:Program}{C:Cx PP}
def od:Option SV->Option DR
 | some v=>dv v
 | none=>none
abbrev OpF:=List (Nat×Bool)->Operand->Option SV
abbrev aU:=List (Nat×SB)
def opL(op:OpF):List Operand->Option (List SV)
 | []=>some []
 | x::r=>match op [] x,opL op r with|some a,some b=>some (a::b)|_,_=>none
def opP(op:OpF):List (Nat×Operand)->Option (List (Nat×SV))
 | []=>some []
 | (i,x)::r=>match op [] x,opP op r with|some a,some b=>some ((i,a)::b)|_,_=>none
def opO(op:OpF):Option Operand->Option (Option SV)
 | none=>some none
 | some x=>match op [] x with|some v=>some (some v)|none=>none
def eB(C:Cx PP)(ρ:Names)(W:World)(nm:Nat)(r:DR)(val:Value)(W':World):Prop:=
 ∃XM,ZB C ρ W nm (r.w.map Prod.fst) r.fr XM W'∧(∀n sb,r.w=some (n,sb)->cS XM W' n sb)∧den XM r.v val
def aI(z:Nat->Nat->Value->Prop):Names:=⟨λ_=>none,λ_=>none,λ_ _=>none,z,[],λ_=>False⟩
def Il(z:Nat->Nat->Value->Prop)(W W':World)(val:Value)(sz n:Nat)(f:Nat->List SV)(t:TypeId):Prop:=
 ∃(a:Option Addr) (cap:Nat) (z2:Nat->Nat->Value->Prop),(∀b i c,z2 b i c->z b i c)∧val=.slice a n cap∧n<=cap∧(cap≠0->∃(b:Nat) (u:List Value),a=some ⟨b,0,none⟩∧W.heap.size<=b∧Zq W' b u.toArray t∧u.length=cap*sz∧(∀c∈u,c.oneCell'=true)∧(∀i c,¬z2 b i c) ∧
  ∀i,i<n->∃us,au (aI z2) (f i) us∧us.length=sz∧∀k c,us[k]? = some c->u[i*sz+k]? = some c)
def M6(z:Nat->Nat->Value->Prop)(W W':World)(val:Value)(t:TypeId):SV->Prop
 | .rs sz n f=>Il z W W' val sz n f t
 | .agg [x,.rs sz n f]=>∃u v,val=.agg #[u,v]∧den sB x u∧Il z W W' v sz n f t
 | _=>False
structure XR {PP:Program} (C:Cx PP) where
 f:FuncId
 en:∀(args:Array Value) (w:World),(callFunc f args).run C.P w=.ok (.enter f args) w
 ns:∀args:Array Value,NS C.P (callFunc f args)
 run:List SV->Option (Option Prop×SV)
  /-- What comes out lies in memory that is new. -/
 fresh:Bool
  /-- What comes out is a list that nobody else has (of this type). -/
 own:Option TypeId
  /-- A walk whose list of contracts begins with this one: numbers wrap in it. -/
 wr:Bool:=false
 frz:Bool:=false
  /-- Slices that are written out are lists of one's own. -/
 lst:Bool:=false
  /-- Appending within a list's known length overwrites; slices may reach up to it. -/
 ovr:Bool:=false
  /-- What the function does, where it writes what it is handed: said by hand, of the heap, the next name, its arguments. -/
 eff:Option (aU->Nat->List SV->Option DR):=none
 ok:∀(ze:Nat->Nat->Value->Prop) (W:World) (args:List SV) (vs:List Value) (ob:Option Prop) (out:SV),C.ZQ W->(∀b i c,ze b i c->W.cell? ⟨b,i,none⟩=some c∧c.oneCell'=true)->au (aI ze) args vs->run args=some (ob,out)->ox ob->
  bj C.P C.co f vs.toArray W λe W'=>∃val z',e=.returned val∧Gr W W'∧(∀b i c,z' b i c->(ze b i c∨W.heap.size<=b)∧W'.cell? ⟨b,i,none⟩=some c∧c.oneCell'=true)∧den (aI z') out val∧(fresh=true->∀b i c,z' b i c->W.heap.size<=b)∧(∀t,own=some t->M6 z' W W' val t out)
 effOk:∀g,eff=some g->∀(ρ:Names) (W:World) (H:aU) (nm:Nat) (args:List SV) (vs:List Value) (r:DR),YH C H ρ W->(r.fr=true->ρ.v nm=none)->au ρ args vs->g H nm args=some r->r.Ob->
  bj C.P C.co f vs.toArray W λe W'=>∃val,e=.returned val∧eB C ρ W nm r val W':=by intro g h;cases h
def Uv : List (XR C)->Bool
 | []=>false
 | c::_=>c.wr
def WN : List (XR C)->Bool
 | []=>false
 | c::_=>c.frz
def WE : List (XR C)->Bool
 | []=>false
 | c::_=>c.lst
def Sq : List (XR C)->Bool
 | []=>false
 | c::_=>c.ovr
def AL{PP:Program}{C:Cx PP} : List (XR C)->Nat->Option (XR C)
 | [],_=>none
 | c::r,n=>match Nat.beq c.f n with|true=>some c|false=>AL r n
theorem yv{PP:Program}{C:Cx PP} : ∀{l:List (XR C)} {n:Nat} {c:XR C},AL l n=some c->c.f=n
 | [],_,_,h=>by simp[AL] at h
 | d::r,n,c,h=>by simp only[AL] at h;split at h;rename_i hb;obtain rfl:=Oi h;exact Nb hb;exact yv h
mutual
def mu:SV->Bool
 | .v _=>true
 | .il _ _=>true
 | .bl _=>true
 | .p _ _=>false
 | .s _ _ _ _ _=>false
 | .f _ x y=>match dB x with|true=>dB y|false=>false
 | .agg l=>dB l
 | .tup l=>dB l
 | .e=>true
 | .rs _ _ _=>true
 | .rp _ _=>true
 | .g _ _ _ _ _=>false
 | .gp _ _ _ _ _=>false
 | .m _=>false
 | .kd _ _ _ _ _=>false
 | .kq _ _ _ _ _=>false
def dB:List SV->Bool
 | []=>true
 | x::r=>match mu x with|true=>dB r|false=>false
end
mutual
def uC:SV->Bool
 | .v _=>true
 | .il _ _=>true
 | .bl _=>true
 | .p _ _=>false
 | .s _ _ _ _ _=>false
 | .f _ x y=>match gW x with|true=>gW y|false=>false
 | .agg l=>gW l
 | .tup l=>gW l
 | .e=>true
 | .rs _ _ _=>false
 | .rp _ _=>false
 | .g _ _ _ _ _=>false
 | .gp _ _ _ _ _=>false
 | .m _=>false
 | .kd _ _ _ _ _=>false
 | .kq _ _ _ _ _=>false
def gW:List SV->Bool
 | []=>true
 | x::r=>match uC x with|true=>gW r|false=>false
end
def chunk(l:List SV)(sz i:Nat):List SV:=(l.drop (i*sz)).take sz
def OB(H:aU)(m e sz:Nat):Option (Nat×(Nat->List SV)×Nat×Nat×(Nat->Nat×(Nat->List SV))×TypeId×TypeId):=match look H m with
 | some (.nst e' Yb N h p Yf g tk t none)=>match Nat.beq e e',Nat.beq sz Yb with|true,true=>some (N,h,p,Yf,g,tk,t)|_,_=>none
 | _=>none
def kids(H:aU)(m Yf:Nat):Option (Nat×Nat×Nat×(Nat->List SV)×Nat×(Nat->Nat×(Nat->List SV))×TypeId×TypeId):=match look H m with
 | some (.nst e sz N h p szk' g tk t none)=>match Nat.beq Yf szk' with|true=>some (e,sz,N,h,p,g,tk,t)|_=>none
 | _=>none
def G4(h:Nat->List SV)(p Yf:Nat)(g:Nat->Nat×(Nat->List SV))(i:Nat):List SV:=(h i).set p (.rs Yf (g i).1 (g i).2)
def U7(m:Nat)(h:Nat->List SV)(p Yf:Nat)(g:Nat->Nat×(Nat->List SV))(i:Nat):List SV:=(h i).set p (.kd m i Yf 0 (g i).1)
mutual
def fzS(rec:List SV->Option (List SV))(H:aU):SV->Option SV
 | .p n off=>match look H n with
  | some (.lay cs _)=>match rec cs with|some l=>some (.rp l off)|none=>none
  | _=>none
 | .s n sz off len cap=>match look H n with
  | some (.lay cs _)=>match rec cs with
   | some l=>match Nat.ble (off+len*sz) l.length,Nat.ble len cap with|true,true=>some (.rs sz len (λi=>chunk (l.drop off) sz i))|_,_=>none
   | none=>none
  | _=>none
 | .g m e sz off n=>match look H m with
  | some (.lst e' Yb _ h _)=>match Nat.beq e e',Nat.beq sz Yb with|true,true=>some (.rs sz n (λi=>h (off+i)))|_,_=>none
  | some (.nst e' Yb _ h p Yf g _ _ none)=>match Nat.beq e e',Nat.beq sz Yb with|true,true=>some (.rs sz n (λi=>G4 h p Yf g (off+i)))|_,_=>none
  | _=>none
 | .gp m e sz i off=>match look H m with
  | some (.lst e' Yb _ h _)=>match Nat.beq e e',Nat.beq sz Yb with|true,true=>some (.rp (h i) off)|_,_=>none
  | some (.nst e' Yb _ h p Yf g _ _ none)=>match Nat.beq e e',Nat.beq sz Yb with|true,true=>some (.rp (G4 h p Yf g i) off)|_,_=>none
  | _=>none
 | .kd m i sz off n=>match kids H m sz with
  | some (_,_,_,_,_,g,_,_)=>some (.rs sz n (λj=>(g i).2 (off+j)))
  | none=>none
 | .kq m i sz j off=>match kids H m sz with
  | some (_,_,_,_,_,g,_,_)=>some (.rp ((g i).2 j) off)
  | none=>none
 | .f fn x y=>match fzL rec H x,fzL rec H y with|some a,some b=>some (.f fn a b)|_,_=>none
 | .agg l=>match fzL rec H l with|some a=>some (.agg a)|none=>none
 | .tup l=>match fzL rec H l with|some a=>some (.tup a)|none=>none
 | .m _=>none
 | x=>some x
def fzL(rec:List SV->Option (List SV))(H:aU):List SV->Option (List SV)
 | []=>some []
 | x::r=>match fzS rec H x,fzL rec H r with|some a,some b=>some (a::b)|_,_=>none
end
def fzK(H:aU):Nat->List SV->Option (List SV)
 | 0=>fzL (λ_=>none) H
 | k+1=>fzL (fzK H k) H
mutual
def frS(H:aU):SV->Option (SV×List Prop)
 | .s n sz off len cap=>match look H n with
  | some (.lay cs _)=>match Nat.ble (off+len*sz) cs.length,Nat.ble len cap,gW cs with|true,true,true=>some (.rs sz len (λi=>chunk (cs.drop off) sz i),[])|_,_,_=>none
  | _=>none
 | .g m e sz off n=>match look H m with
  | some (.lst e' Yb _ h _)=>match Nat.beq e e',Nat.beq sz Yb with|true,true=>some (.rs sz n (λi=>h (off+i)),[∀i,i<n->gW (h (off+i))=true])|_,_=>none
  | some (.nst e' Yb _ h p Yf g _ _ none)=>match Nat.beq e e',Nat.beq sz Yb with|true,true=>some (.rs sz n (λi=>G4 h p Yf g (off+i)),[∀i,i<n->gW ((h (off+i)).set p .e)=true,∀i,i<n->∀j,j<(g (off+i)).1->gW ((g (off+i)).2 j)=true])|_,_=>none
  | _=>none
 | .agg l=>match frL H l with|some (a,ps)=>some (.agg a,ps)|none=>none
 | .tup l=>match frL H l with|some (a,ps)=>some (.tup a,ps)|none=>none
 | .v x=>some (.v x,[])
 | .il k n=>some (.il k n,[])
 | .bl b=>some (.bl b,[])
 | .e=>some (.e,[])
 | .p _ _=>none
 | .gp _ _ _ _ _=>none
 | .kd _ _ _ _ _=>none
 | .kq _ _ _ _ _=>none
 | .f _ _ _=>none
 | .m _=>none
 | .rs _ _ _=>none
 | .rp _ _=>none
def frL(H:aU):List SV->Option (List SV×List Prop)
 | []=>some ([],[])
 | x::r=>match frS H x,frL H r with|some (a,ps),some (b,qs)=>some (a::b,ps++qs)|_,_=>none
end
def rv(C:Cx PP)(cs:List SV)(off:Nat)(t:TypeId):Option SV:=
 match look C.T t with
 | none=>none
 | some ti=>match iM ti.k with
  | true=>match takeN ti.sz (cs.drop off) with|some l=>some (.agg l)|none=>none
  | false=>cs[off]?
def vM(H:aU)(m e sz:Nat):Option (Nat×(Nat->List SV)×TypeId):=match look H m with
 | some (.lst e' Yb N h t)=>match Nat.beq e e',Nat.beq sz Yb with|true,true=>some (N,h,t)|_,_=>none
 | _=>none
def yh(H:aU)(n:Nat):Option (List SV×TypeId):=match look H n with|some (.lay cs t)=>some (cs,t)|_=>none
def EV(C:Cx PP)(H:aU)(x:SV)(t:TypeId):Option SV:=
 match x with
 | .p n off=>match yh H n with|some (cs,_)=>rv C cs off t|none=>none
 | .v (.pointer (some ⟨b,off,none⟩))=>match look C.G b with|some sb=>rv C sb.1 off t|none=>none
 | .rp x off=>rv C x off t
 | .gp m e sz i off=>match vM H m e sz with
  | some (_,h,_)=>rv C (h i) off t
  | none=>match OB H m e sz with|some (_,h,p,Yf,g,_,_)=>rv C (U7 m h p Yf g i) off t|none=>none
 | .kq m i sz j off=>match kids H m sz with|some (_,_,_,_,_,g,_,_)=>rv C ((g i).2 j) off t|none=>none
 | _=>none
def Px:TK->Option (List (Nat×Nat))
 | .struct fs=>some fs
 | _=>none
def mJ(C:Cx PP)(s:TypeId)(k:Nat):Option (Nat×TI):=
 match look C.T s with
 | none=>none
 | some ti=>match Px ti.k with
  | none=>none
  | some fs=>match fs[k]? with
   | none=>none
   | some (off,ft)=>match look C.T ft with|some fi=>some (off,fi)|none=>none
def lO(x:SV)(fo sz:Nat):Option SV:=
 match sz with
 | 0=>none
 | _+1=>match x with
  | .p n off=>some (.p n (off+fo))
  | .v (.pointer (some ⟨b,off,none⟩))=>some (.v (.pointer (some ⟨b,off+fo,none⟩)))
  | .rp x off=>some (.rp x (off+fo))
  | .gp m e sz i off=>some (.gp m e sz i (off+fo))
  | .kq m i sz j off=>some (.kq m i sz j (off+fo))
  | _=>none
def QH{PP:Program}(C:Cx PP):List (Nat×Nat)->Bool
 | []=>true
 | (_,t)::r=>match look C.T t with|some _=>QH C r|none=>false
def jj:SV->Option (List SV)
 | .agg l=>some l
 | .tup _=>none
 | .v (.agg _)=>none
 | .v (.tuple _)=>none
 | x=>some [x]
def Q9:SV->Bool
 | .agg _=>false
 | .tup _=>false
 | .v (.agg _)=>false
 | .v (.tuple _)=>false
 | _=>true
def zN:List SV->Bool
 | []=>true
 | x::r=>match Q9 x with|true=>zN r|false=>false
def Fq{PP:Program}(C:Cx PP)(s:TypeId):List SV->List (Nat×SV)->Option (List SV)
 | z,[]=>some z
 | z,(i,x)::r=>match mJ C s i,jj x with
  | some (off,fi),some l=>match Nat.beq l.length fi.sz,Nat.ble (off+fi.sz) z.length with
   | true,true=>match laid (z.take off++l++z.drop (off+fi.sz)) with|some z'=>Fq C s z' r|none=>none
   | _,_=>none
  | _,_=>none
def jM:SV->Bool
 | .il _ _=>true
 | _=>false
def Vk:BinOp->Bool
 | .shl=>true
 | .shr=>true
 | _=>false
def Qu(op:BinOp)(x y:SV):Option DR:=
 match x.int?,y.int? with
 | some (k,a),some (k',b)=>match Vk op with
  | true=>En op k (jM x) (jM y) a b
  | false=>match ml k k' with|true=>yQ op k (jM x) (jM y) a b|false=>none
 | _,_=>none
def My(w:Bool)(op:BinOp)(x y:SV):Option DR:=
 match w with
 | false=>Qu op x y
 | true=>match x.int?,y.int? with
  | some (k,a),some (k',b)=>match Vk op with
   | true=>En op k (jM x) (jM y) a b
   | false=>match ml k k' with|true=>yP op k (jM x) (jM y) a b|false=>none
  | _,_=>none
def Gb(C:Cx PP)(op:BinOp)(t:TypeId)(x y:SV):Option SV:=
 match op,x.bool?,y.bool?,look C.T t with
 | .eql,some a,some b,some ti=>match ti.k with|.bool=>some (.v (.bool (a==b)))|_=>none
 | .neq,some a,some b,some ti=>match ti.k with|.bool=>some (.v (.bool (a != b)))|_=>none
 | _,_,_,_=>none
def AZ{PP:Program}(C:Cx PP)(h:Nat->List SV->List SV->Option Bool)(xs ys:List SV):List (Nat×Nat)->Option Bool
 | []=>some true
 | (off,ft)::r=>match look C.T ft with
  | none=>none
  | some fi=>match takeN fi.sz (xs.drop off),takeN fi.sz (ys.drop off) with
   | some x,some y=>match h ft x y with
    | none=>none
    | some b=>match r with
     | []=>some b
     | _::_=>match AZ C h xs ys r with|some c=>some (b&&c)|none=>none
   | _,_=>none
def BC(e sz:Nat):Nat->Nat->List (Nat×Nat)
 | _,0=>[]
 | i,n+1=>(i*sz,e)::BC e sz (i+1) n
def eqT{PP:Program}(C:Cx PP):Nat->Nat->List SV->List SV->Option Bool
 | 0,_,_,_=>none
 | k+1,t,xs,ys=>match look C.T t with
  | none=>none
  | some ti=>match ti.k with
   | .struct fs=>match ti.eq with|true=>AZ C (eqT C k) xs ys fs|false=>none
   | .arr n e=>match look C.T e with
    | some ei=>AZ C (eqT C k) xs ys (BC e ei.sz 0 n)
    | none=>none
   | .int _=>match xs,ys with
    | [x],[y]=>match x.int?,y.int? with
     | some (k1,a),some (k2,b)=>match ml k1 k2 with|true=>some (decide (a=b))|false=>none
     | _,_=>none
    | _,_=>none
   | .bool=>match xs,ys with
    | [x],[y]=>match x.bool?,y.bool? with|some a,some b=>some (a==b)|_,_=>none
    | _,_=>none
   | .str=>match xs,ys with
    | [.v (.string a)],[.v (.string b)]=>some (a.toList==b.toList)
    | _,_=>none
   | _=>none
def MF(a b:Bool):Bool:=match a with|true=>b|false=>false
theorem fR{a b:Bool}(h:MF a b=true):a=true∧b=true:=by cases a<;>first|exact⟨rfl,h⟩|cases h
def xT:List SV->Bool
 | []=>true
 | x::r=>match x.int? with|some _=>xT r|none=>match x.bool? with|some _=>xT r|none=>match x.txt with|true=>xT r|false=>false
def MH(C:Cx PP)(op:BinOp)(t:TypeId)(x y:SV):Option SV:=
 match op,x,y with
 | .eql,.agg xs,.agg ys=>match look C.T t with
  | some ti=>match ti.eq,MF (xT xs) (MF (xT ys) (iM ti.k)) with
   | true,true=>match eqT C 4 t xs ys with|some c=>some (.v (.bool c))|none=>none
   | _,_=>none
  | none=>none
 | .neq,.agg xs,.agg ys=>match look C.T t with
  | some ti=>match ti.eq,MF (xT xs) (MF (xT ys) (iM ti.k)) with
   | true,true=>match eqT C 4 t xs ys with|some c=>some (.v (.bool (!c)))|none=>none
   | _,_=>none
  | none=>none
 | _,_,_=>none
def C2:SV->Bool
 | .v (.pointer none)=>true
 | _=>false
def CJ:SV->Option Bool
 | .v (.pointer none)=>some true
 | .rp _ _=>some false
 | .p _ _=>some false
 | .gp _ _ _ _ _=>some false
 | .kq _ _ _ _ _=>some false
 | _=>none
def KO:TK->Bool
 | .ptr=>true
 | _=>false
def Ol(C:Cx PP)(op:BinOp)(t:TypeId)(x y:SV):Option SV:=
 match CJ x,C2 y,look C.T t with
 | some b,true,some ti=>match KO ti.k,op with
  | true,.eql=>some (.bl b)
  | true,.neq=>some (.bl (!b))
  | _,_=>none
 | _,_,_=>none
def unD(op:UnOp)(x:SV):Option DR:=
 match op,x with
 | .not,.bl b=>dv (.bl (!b))
 | .not,.v (.bool b)=>dv (.v (.bool (!b)))
 | .neg,x=>match x.int? with|some (k,n)=>arI k (jM x) none (-n)|none=>none
 | _,_=>none
def FH(C:Cx PP)(src dst:TypeId)(x:SV):Option DR:=
 match look C.T src,look C.T dst with
 | some _,some ti=>match ti.k with
  | .int k=>match x.int? with
   | some (k',n)=>match ml k' .u64,jM x with
    | true,false=>dv (.v (.int k (k.wrap n)))
    | _,_=>arI k (jM x) none n
   | none=>none
  | _=>none
 | _,_=>none
def FB:TK->Option Nat
 | .sl e=>some e
 | _=>none
def GU:Nat->List SV->List SV
 | 0,_=>[]
 | n+1,l=>l++GU n l
def uG(sz:Nat):List SV->List (Nat×SV)->Option (List SV)
 | z,[]=>some z
 | z,(i,x)::r=>match jj x with
  | some l=>match Nat.beq l.length sz,Nat.ble (i*sz+sz) z.length with
   | true,true=>match laid (z.take (i*sz)++l++z.drop (i*sz+sz)) with|some z'=>uG sz z' r|none=>none
   | _,_=>none
  | none=>none
def Dq(C:Cx PP)(nm:Nat)(t len:Nat)(ps:List (Nat×SV)):Option DR:=
 match look C.T t with
 | none=>none
 | some ti=>match FB ti.k with
  | none=>none
  | some e=>match look C.T e with
   | none=>none
   | some ei=>match len,ps with
    | 0,[]=>dv .e
    | _,_=>match Nat.beq (len*ei.sz) 0,Nat.ble (len*ei.sz) 16777216,Nat.beq ei.z.length ei.sz with
     | false,true,true=>match uG ei.sz (GU len ei.z) ps with
      | some l=>match zN l with
       | true=>some ⟨none,.s nm ei.sz 0 len len,some (nm,.lay l e),true⟩
       | false=>none
      | none=>none
     | _,_,_=>none
def sP(C:Cx PP)(t len:Nat)(ps:List (Nat×SV)):Option DR:=
 match look C.T t with
 | none=>none
 | some ti=>match FB ti.k with
  | none=>none
  | some e=>match look C.T e with
   | none=>none
   | some ei=>match Nat.beq (len*ei.sz) 0,Nat.ble (len*ei.sz) 16777216,Nat.beq ei.z.length ei.sz with
     | false,true,true=>match uG ei.sz (GU len ei.z) ps with
      | some l=>match zN l,dB l,Nat.beq l.length (len*ei.sz) with
       | true,true,true=>dv (.rs ei.sz len (λi=>chunk l ei.sz i))
       | _,_,_=>none
      | none=>none
     | _,_,_=>none
def SS:Nat->List SV->Nat->Nat->List SV
 | 1,l,_,_=>l
 | _,l,sz,i=>chunk l sz i
def yO(C:Cx PP)(nm:Nat)(t len:Nat)(ps:List (Nat×SV)):Option DR:=
 match look C.T t with
 | none=>none
 | some ti=>match FB ti.k with
  | none=>none
  | some e=>match look C.T e with
   | none=>none
   | some ei=>match Nat.beq (len*ei.sz) 0,Nat.ble (len*ei.sz) 16777216,Nat.beq ei.z.length ei.sz with
     | false,true,true=>match uG ei.sz (GU len ei.z) ps with
      | some l=>match zN l,dB l,Nat.beq l.length (len*ei.sz) with
       | true,true,true=>some ⟨none,.g nm nm ei.sz 0 len,some (nm,.lst nm ei.sz len (SS len l ei.sz) e),true⟩
       | _,_,_=>none
      | none=>none
     | _,_,_=>none
def fzB:List (Nat×Bool)->Bool
 | []=>false
 | _::_=>true
def natLit:SV->Option Nat
 | .il _ (.ofNat k)=>some k
 | .v (.int _ (.ofNat k))=>some k
 | _=>none
def fe(C:Cx PP)(t:Nat):Option (Nat×TI):=
 match look C.T t with
 | none=>none
 | some ti=>match FB ti.k with
  | none=>none
  | some e=>match look C.T e with|some ei=>some (e,ei)|none=>none
def vU(C:Cx PP)(t:Nat):Option (Nat×Nat×TI):=
 match look C.T t with
 | none=>none
 | some ti=>match ti.k with
  | .arr len e=>match look C.T e with|some ei=>some (len,e,ei)|none=>none
  | _=>none
def LB(C:Cx PP)(t:Nat)(x i:SV):Option DR:=
 match x with
 | .s n sz off len _=>match fe C t,natLit i with
  | some (_,ei),some k=>match Nat.blt k len,Nat.beq ei.sz sz with|true,true=>dv (.p n (off+k*sz))|_,_=>none
  | _,_=>none
 | .rs sz n h=>match fe C t,i.int? with
  | some (_,ei),some (_,k)=>match Nat.beq ei.sz sz with|true=>dvo (0<=k∧k<n) (.rp (h k.toNat) 0)|false=>none
  | _,_=>none
 | .g m e sz off n=>match fe C t,i.int? with
  | some (_,ei),some (_,k)=>match Nat.beq ei.sz sz with|true=>dvo (0<=k∧k<n) (.gp m e sz (off+k.toNat) 0)|false=>none
  | _,_=>none
 | .p n off=>match vU C t,natLit i with
  | some (len,_,ei),some k=>match Nat.blt k len with|true=>dv (.p n (off+k*ei.sz))|false=>none
  | _,_=>none
 | .rp x off=>match vU C t,natLit i with
  | some (len,_,ei),some k=>match Nat.blt k len with|true=>dv (.rp x (off+k*ei.sz))|false=>none
  | _,_=>none
 | .gp m e sz j off=>match vU C t,natLit i with
  | some (len,_,ei),some k=>match Nat.blt k len with|true=>dv (.gp m e sz j (off+k*ei.sz))|false=>none
  | _,_=>none
 | .kd m q sz off n=>match fe C t,i.int? with
  | some (_,ei),some (_,k)=>match Nat.beq ei.sz sz with|true=>dvo (0<=k∧k<n) (.kq m q sz (off+k.toNat) 0)|false=>none
  | _,_=>none
 | .kq m q sz j off=>match vU C t,natLit i with
  | some (len,_,ei),some k=>match Nat.blt k len with|true=>dv (.kq m q sz j (off+k*ei.sz))|false=>none
  | _,_=>none
 | .v (.pointer (some ⟨b,off,none⟩))=>match vU C t,natLit i with
  | some (len,_,ei),some k=>match Nat.blt k len with|true=>dv (.v (.pointer (some ⟨b,off+k*ei.sz,none⟩)))|false=>none
  | _,_=>none
 | _=>none
def um(C:Cx PP)(t:Nat)(x i:SV):Option SV:=
 match x,vU C t,natLit i with
 | .agg l,some (len,_,ei),some k=>match Nat.blt k len,iM ei.k with
  | true,true=>match takeN ei.sz (l.drop (k*ei.sz)) with|some m=>some (.agg m)|none=>none
  | true,false=>l[k*ei.sz]?
  | false,_=>none
 | _,_,_=>none
def Ql(k:IntKind)(sz c:Nat):Nat->List SV->Option (List Int)
 | 0,_=>some []
 | m+1,l=>match l[c]? with
  | none=>none
  | some x=>match x.int?,Ql k sz c m (l.drop sz) with
   | some (k',n),some r=>match ml k k' with|true=>some (n::r)|false=>none
   | _,_=>none
def FP(n:Int)(sz m:Nat)(l:List SV):Nat->List SV->Option (List SV)
 | _,[]=>some []
 | c,z::zs=>match z.int? with
  | some (k,_)=>match Ql k sz c m l,FP n sz m l (c+1) zs with
   | some r,some rs=>some (.v (.int k (r.getD n.toNat 0))::rs)
   | _,_=>none
  | none=>none
def C7(C:Cx PP)(t:Nat)(x i:SV):Option DR:=
 match x,vU C t with
 | .agg l,some (len,_,ei)=>match iM ei.k,i.int? with
  | true,some (_,n)=>match Nat.beq ei.z.length ei.sz,FP n ei.sz len l 0 ei.z with
   | true,some cs=>dvo (0<=n∧n<len) (.agg cs)
   | _,_=>none
  | _,_=>none
 | _,_=>none
def Vh(C:Cx PP)(t:TypeId)(x:SV):Option SV:=
 match look C.T t with
 | some ti=>match ti.k,x with
  | .str,.v (.string s)=>some (.v (.int .i64 s.size))
  | _,_=>none
 | none=>none
def SU(C:Cx PP)(ats:Array TypeId)(l:List SV):Option SV:=
 match l,ats.toList with
 | [x],t::_=>match Vh C t x with
  | some r=>some r
  | none=>match fe C t with
   | some _=>match x with
    | .s _ _ _ len _=>some (.il .i64 (.ofNat len))
    | .rs _ n _=>some (.v (.int .i64 n))
    | .g _ _ _ _ n=>some (.v (.int .i64 n))
    | .kd _ _ _ _ n=>some (.v (.int .i64 n))
    | .e=>some (.il .i64 0)
    | .v (.slice none 0 0)=>some (.il .i64 0)
    | _=>none
   | none=>none
 | _,_=>none
def qZ(H:aU)(sz:Nat):SV->Option (Nat×(Nat->List SV))
 | .e=>some (0,λ_=>[])
 | .v (.slice none 0 0)=>some (0,λ_=>[])
 | .rs Yb n h=>match Nat.beq sz Yb with|true=>some (n,h)|false=>none
 | .g m e Yb off n=>match vM H m e Yb,Nat.beq sz Yb with|some (_,h,_),true=>some (n,λi=>h (off+i))|_,_=>none
 | .kd m i Yb off n=>match kids H m Yb,Nat.beq sz Yb with|some (_,_,_,_,_,g,_,_),true=>some (n,λj=>(g i).2 (off+j))|_,_=>none
 | .s n Yb off len cap=>match yh H n,Nat.beq sz Yb with
  | some (cs,_),true=>match laid ((cs.drop off).take (len*sz)) with
   | some l=>match Nat.beq l.length (len*sz),dB l,len with
    | true,true,1=>some (1,λ_=>l)
    | true,true,_=>some (len,λi=>chunk l sz i)
    | _,_,_=>none
   | none=>none
  | _,_=>none
 | _=>none
def gQ(n bytes:Nat):Prop:=n<=maxLen∧n*bytes<=140737488355328
def MC(N:Nat)(h k:Nat->List SV):Nat->List SV:=λi=>jnL (Nat.ble N i) (k (i-N)) (h i)
def MD(C:Cx PP)(H:aU)(nm:Nat)(t:Nat)(x y:SV):Option DR:=
 match fe C t with
 | none=>none
 | some (e,ei)=>match Nat.beq ei.sz 0,Nat.beq ei.z.length ei.sz,qZ H ei.sz y with
  | false,true,some (m,k)=>match x with
   | .e=>some ⟨some (gQ m ei.nb),.g nm nm ei.sz 0 m,some (nm,.lst nm ei.sz m k e),true⟩
   | .v (.slice none 0 0)=>some ⟨some (gQ m ei.nb),.g nm nm ei.sz 0 m,some (nm,.lst nm ei.sz m k e),true⟩
   | .g l ep sz 0 n=>match vM H l ep sz,Nat.beq ei.sz sz with
    | some (_,h,e'),true=>match Nat.beq e e' with
     | true=>some ⟨some (gQ (n+m) ei.nb∧∀i,i<n->∀j,dD (k j) (h i)),.g l nm sz 0 (n+m),some (l,.lst nm sz (n+m) (MC n h k) e),true⟩
     | false=>none
    | _,_=>none
   | _=>none
  | _,_,_=>none
def MB(C:Cx PP)(H:aU)(nm:Nat)(t:Nat)(x y:SV):Option DR:=
 match fe C t with
 | none=>none
 | some (e,ei)=>match x with
  | .g l ep sz 0 n=>match OB H l ep sz,Nat.beq ei.sz sz,Nat.beq sz 0,Nat.beq ei.z.length ei.sz with
   | some (N,h,p,Yf,g,tk,t'),true,false,true=>match Nat.beq e t',y with
    | true,.s n2 sz2 off 1 _=>match yh H n2,Nat.beq sz sz2 with
     | some (cs,_),true=>match laid ((cs.drop off).take sz) with
      | some c=>match Nat.beq c.length sz with
       | true=>some ⟨some (gQ (n+1) ei.nb∧n=N),.g l nm sz 0 (n+1),some (l,.nst nm sz N h p Yf g tk t' (some c)),true⟩
       | false=>none
      | none=>none
     | _,_=>none
    | _,_=>none
   | _,_,_,_=>none
  | _=>none
def Ae(C:Cx PP)(nm:Nat)(t:Nat)(x y:SV):Option DR:=
 match fe C t,x.int?,y.int? with
 | some (e,ei),some (_,n),some (_,m)=>match Nat.beq ei.sz 0,Nat.beq ei.z.length ei.sz with
  | false,true=>some ⟨some (0<=n∧n<=m∧gQ m.toNat ei.nb),.g nm nm ei.sz 0 n.toNat,some (nm,.lst nm ei.sz n.toNat (λ_=>ei.z) e),true⟩
  | _,_=>none
 | _,_,_=>none
def mE(off n j:Nat):Bool:=match Nat.ble off j with|true=>Nat.blt j (off+n)|false=>false
def clearD(C:Cx PP)(H:aU)(t:Nat)(x:SV):Option DR:=
 match fe C t with
 | none=>none
 | some (e,ei)=>match x with
  | .e=>dv (.tup [])
  | .v (.slice none 0 0)=>dv (.tup [])
  | .g m ep sz off n=>match vM H m ep sz,Nat.beq ei.sz sz,Nat.beq ei.z.length ei.sz,Nat.beq sz 0 with
   | some (N,h,e'),true,true,false=>match Nat.beq e e' with
    | true=>some ⟨some (∀j,j<N->dD ei.z (h j)),.tup [],some (m,.lst ep sz N (λj=>jnL (mE off n j) ei.z (h j)) e'),false⟩
    | false=>none
   | _,_,_,_=>none
  | _=>none
def xd(f:Nat->List SV)(n:Nat):Nat->Nat->List SV->List SV
 | _,0,cs=>cs
 | _,_+1,[]=>[]
 | i,r+1,c::cs=>jnL (Nat.blt i n) (f i) [c]++xd f n (i+1) r cs
def FG(f:Nat->List SV):Nat->Nat->List SV->Prop
 | _,0,_=>True
 | _,_+1,[]=>True
 | i,r+1,c::cs=>dD (f i) [c]∧FG f (i+1) r cs
def LX(C:Cx PP)(H:aU)(t:Nat)(x y:SV):Option DR:=
 match fe C t with
 | none=>none
 | some (_,ei)=>match Nat.beq ei.sz 1 with
  | false=>none
  | true=>match x,y with
   | .s _ _ _ _ _,.v (.slice none 0 0)=>dv (.il .i64 0)
   | .s m sz off len _,.s m' Yb YW len' _=>match Nat.beq sz 1,Nat.beq Yb 1,yh H m,yh H m' with
    | true,true,some (cs,ty),some (cs',_)=>match laid ((cs'.drop YW).take (min len' len)) with
     | some l=>match Nat.beq l.length (min len' len),Nat.ble (off+l.length) cs.length,laid (cs.take off++l++cs.drop (off+l.length)) with
      | true,true,some c2=>some ⟨none,.il .i64 l.length,some (m,.lay c2 ty),false⟩
      | _,_,_=>none
     | none=>none
    | _,_,_,_=>none
   | .s m sz off len _,.rs Yb n f=>match Nat.beq sz 1,Nat.beq Yb 1,yh H m with
    | true,true,some (cs,ty)=>match Nat.ble (off+len) cs.length,laid (cs.take off++xd f n 0 len (cs.drop off)) with
     | true,some c2=>some ⟨some (FG f 0 len (cs.drop off)),.v (.int .i64 (min n len:Nat)),some (m,.lay c2 ty),false⟩
     | _,_=>none
    | _,_,_=>none
   | _,_=>none
def tj(C:Cx PP)(t:Nat)(x:SV)(low high max:Option SV):Option DR:=
 match x with
 | .rs sz n h=>match fe C t with
  | some (_,ei)=>match Nat.beq ei.sz sz,low,high,max with
   | true,none,some hi,none=>match hi.int? with|some (_,b)=>dvo (0<=b∧b<=n) (.rs sz b.toNat h)|none=>none
   | true,some lo,none,none=>match lo.int? with|some (_,a)=>dvo (0<=a∧a<=n) (.rs sz (n-a.toNat) (λi=>h (a.toNat+i)))|none=>none
   | true,some lo,some hi,none=>match lo.int?,hi.int? with|some (_,a),some (_,b)=>dvo (0<=a∧a<=b∧b<=n) (.rs sz (b.toNat-a.toNat) (λi=>h (a.toNat+i)))|_,_=>none
   | true,none,some (.il _ 0),some (.il _ 0)=>dv .e
   | true,none,none,none=>dv (.rs sz n h)
   | _,_,_,_=>none
  | none=>none
 | .g m e sz off n=>match fe C t with
  | some (_,ei)=>match Nat.beq ei.sz sz,low,high,max with
   | true,none,some hi,none=>match hi.int? with|some (_,b)=>dvo (0<=b∧b<=n) (.g m e sz off b.toNat)|none=>none
   | true,some lo,none,none=>match lo.int? with|some (_,a)=>dvo (0<=a∧a<=n) (.g m e sz (off+a.toNat) (n-a.toNat))|none=>none
   | true,some lo,some hi,none=>match lo.int?,hi.int? with|some (_,a),some (_,b)=>dvo (0<=a∧a<=b∧b<=n) (.g m e sz (off+a.toNat) (b.toNat-a.toNat))|_,_=>none
   | true,none,some (.il _ 0),some (.il _ 0)=>dv .e
   | true,none,none,none=>dv (.g m e sz off n)
   | _,_,_,_=>none
  | none=>none
 | .s n sz off len cap=>match fe C t with
  | some (_,ei)=>match Nat.beq ei.sz sz,low,high,max with
   | true,none,none,none=>dv (.s n sz off len cap)
   | true,none,some (.il _ 0),some (.il _ 0)=>dv .e
   | _,_,_,_=>none
  | none=>none
 | .p n off=>match vU C t with
  | some (len,_,ei)=>match low,high,max,len with
   | none,none,none,_+1=>dv (.s n ei.sz off len len)
   | _,_,_,_=>none
  | none=>none
 | .e=>match fe C t,low,high,max with
  | some _,none,none,none=>dv .e
  | some _,none,some (.il _ 0),some (.il _ 0)=>dv .e
  | some _,none,some (.il _ 0),none=>dv .e
  | _,_,_,_=>none
 | .v (.slice none 0 0)=>match fe C t,low,high,max with
  | some _,none,none,none=>dv .e
  | some _,none,some (.il _ 0),some (.il _ 0)=>dv .e
  | some _,none,some (.il _ 0),none=>dv .e
  | _,_,_,_=>none
 | _=>none
def T3(C:Cx PP)(H:aU)(t:Nat)(x y:SV):Option DR:=
 match fe C t with
 | none=>none
 | some (e,ei)=>match Nat.beq ei.sz 0,qZ H ei.sz y with
  | false,some (m,k)=>match x with
   | .g l ep sz 0 n=>match vM H l ep sz,Nat.beq ei.sz sz with
    | some (N,h,e'),true=>match Nat.beq e e' with
     | true=>some ⟨some (n+m<=N∧∀i,i<N->∀j,dD (k j) (h i)),.g l ep sz 0 (n+m),some (l,.lst ep sz N (λi=>jnL (mE n m i) (k (i-n)) (h i)) e),false⟩
     | false=>none
    | _,_=>none
   | _=>none
  | _,_=>none
def oa(n:Nat):SV->SV
 | .g m e sz off k=>.g m e sz off (min k n)
 | .rs sz k f=>.rs sz (min k n) f
 | x=>x
def LW(C:Cx PP)(H:aU)(t:Nat)(x y:SV):Option DR:=
 match fe C t with
 | none=>none
 | some (e,ei)=>match x with
  | .g l ep sz off n=>match Nat.beq ei.sz 0,qZ H ei.sz (oa n y),vM H l ep sz,Nat.beq ei.sz sz with
   | false,some (m,k),some (N,h,e'),true=>match Nat.beq e e' with
    | true=>some ⟨some (m<=n∧∀i,i<N->mE off m i=false->dD (k (i-off)) (h i)),.v (.int .i64 m),some (l,.lst ep sz N (λi=>jnL (mE off m i) (k (i-off)) (h i)) e),false⟩
    | false=>none
   | _,_,_,_=>none
  | _=>none
def Cv(C:Cx PP)(H:aU)(t:TypeId)(x:SV)(low high max:Option SV):Option DR:=
 match x with
 | .g m e sz off n=>match fe C t,vM H m e sz with
  | some (_,ei),some (N,_,_)=>match Nat.beq ei.sz sz,low,high,max with
   | true,none,some hi,none=>match hi.int? with|some (_,b)=>dvo (0<=b∧off+b.toNat<=N) (.g m e sz off b.toNat)|none=>none
   | true,some lo,some hi,none=>match lo.int?,hi.int? with|some (_,a),some (_,b)=>dvo (0<=a∧a<=b∧off+b.toNat<=N) (.g m e sz (off+a.toNat) (b.toNat-a.toNat))|_,_=>none
   | true,some lo,some hi,some mx=>match lo.int?,hi.int?,mx.int? with|some (_,a),some (_,b),some (_,c)=>dvo (0<=a∧a<=b∧b<=c∧off+c.toNat<=N) (.rs 0 (b.toNat-a.toNat) (λ_=>[]))|_,_,_=>none
   | _,_,_,_=>none
  | _,_=>none
 | _=>none
def callee:SV->Option (Nat×List SV×List SV)
 | .v (.func (.func g) ⟨[]⟩ ⟨[]⟩)=>some (g,[],[])
 | .f (.func g) first captured=>some (g,first,captured)
 | _=>none
def RX(con:XR C)(H:aU)(nm:Nat)(al:List SV):Option DR:=
 match con.own with
 | some t=>match (match dB al with|true=>some al|false=>match con.fresh with|true=>fzK H 3 al|false=>none) with
  | some al'=>match con.run al' with
   | some (ob,out)=>match out with
    | .rs sz n f=>some ⟨ob,.g nm nm sz 0 n,some (nm,.lst nm sz n f t),true⟩
    | .agg [x,.rs sz n f]=>some ⟨ob,.agg [x,.g nm nm sz 0 n],some (nm,.lst nm sz n f t),true⟩
    | _=>none
   | none=>none
  | none=>none
 | none=>
 match dB al with
 | true=>match con.run al with|some (ob,out)=>some ⟨ob,out,none,false⟩|none=>none
 | false=>match fzK H 3 al with
  | some al'=>match con.run al' with
   | some (ob,out)=>match con.fresh with
    | true=>some ⟨ob,out,none,false⟩
    | false=>match uC out with|true=>some ⟨ob,out,none,false⟩|false=>none
   | none=>none
  | none=>none
def mm2(mx:Bool)(x y:SV):Option SV:=match x.int?,y.int? with
 | some (k,a),some (k',b)=>match ml k k' with
  | true=>match jM x,jM y,mx with
   | true,true,true=>some (.il k (max a b))
   | true,true,false=>some (.il k (min a b))
   | _,_,true=>some (.v (.int k (max a b)))
   | _,_,false=>some (.v (.int k (min a b)))
  | false=>none
 | _,_=>none
def mmF(mx:Bool):SV->List SV->Option SV
 | x,[]=>some x
 | x,y::r=>match mm2 mx x y with|some z=>mmF mx z r|none=>none
def mmD(mx:Bool):List SV->Option SV
 | x::y::r=>match mm2 mx x y with|some z=>mmF mx z r|none=>none
 | _=>none
def Jm:List Nat->Option Nat
 | [t,t']=>match Nat.beq t t' with|true=>some t|false=>none
 | _=>none
def Ga(Γ:List (XR C))(op:OpF)(H:aU)(nm:Nat)(c:Call):Option DR:=
 match c.callee with
 | .value x=>match op [] x with
  | some sf=>match callee sf,opL op c.args.toList with
   | some (g,first,captured),some args=>match AL Γ g with
    | some con=>match laid (first++args++captured) with
     | some al=>match con.eff with|some g=>g H nm al|none=>RX con H nm al
     | none=>none
    | none=>none
   | _,_=>none
  | none=>none
 | .builtin .len=>match opL op c.args.toList with|some l=>od (SU C c.argTypes l)|none=>none
 | .builtin .max=>match opL op c.args.toList with|some l=>od (mmD true l)|none=>none
 | .builtin .min=>match opL op c.args.toList with|some l=>od (mmD false l)|none=>none
 | .builtin .append=>match opL op c.args.toList,Jm c.argTypes.toList with
  | some [x,y],some t=>(match Sq Γ with|true=>T3 C H t x y|false=>match MD C H nm t x y with|some r=>some r|none=>MB C H nm t x y)
  | _,_=>none
 | .builtin .clear=>match opL op c.args.toList,c.argTypes.toList with
  | some [x],[t]=>clearD C H t x
  | _,_=>none
 | .builtin .copy=>match opL op c.args.toList,c.argTypes.toList with
  | some [x,y],[t,_]=>(match Sq Γ with|true=>LW C H t x y|false=>LX C H t x y)
  | _,_=>none
 | _=>none
def QF(a b:Bool):Bool:=match a with|true=>b|false=>false
def Cm(C:Cx PP)(H:aU)(t:TypeId)(x v:SV):Option DR:=
 match look C.T t,jj v with
 | some ti,some l=>match Nat.beq l.length ti.sz,zN l with
  | true,true=>match x with
   | .p n off=>match yh H n with
    | some (cs,ty)=>match Nat.ble (off+l.length) cs.length with
     | true=>match laid (cs.take off++l++cs.drop (off+l.length)) with
      | some cs'=>some ⟨none,.v undef,some (n,.lay cs' ty),false⟩
      | none=>none
     | false=>none
    | none=>none
   | .gp m e sz i off=>match vM H m e sz,dB l with
    | some (N,h,ty),true=>match laid ((h i).take off++l++(h i).drop (off+l.length)) with
     | some c=>match Nat.beq c.length sz,Nat.ble (off+l.length) sz with
      | true,true=>some ⟨some (∀j,j<N->dD c (h j)),.v undef,some (m,.lst e sz N (λj=>jnL (Nat.beq j i) c (h j)) ty),false⟩
      | _,_=>none
     | none=>none
    | _,_=>none
   | .kq m i sz j off=>match kids H m sz,dB l with
    | some (e,esz,N,h,p,g,tk,ty),true=>match laid (((g i).2 j).take off++l++((g i).2 j).drop (off+l.length)) with
     | some c=>match Nat.beq c.length sz,Nat.ble (off+l.length) sz with
      | true,true=>some ⟨some (∀a,a<N->∀b,b<(g a).1->dD c ((g a).2 b)),.v undef,some (m,.nst e esz N h p sz (λa=>((g a).1,λb=>jnL (QF (Nat.beq a i) (Nat.beq b j)) c ((g a).2 b))) tk ty none),false⟩
      | _,_=>none
     | none=>none
    | _,_=>none
   | _=>none
  | _,_=>none
 | _,_=>none
def pY:nH->nH->Bool
 | .i k,.i k'=>ml k k'
 | .str,.str=>true
 | _,_=>false
theorem kr{k k':nH}(h:pY k k'=true):k=k':=by cases k<;>cases k'<;>first|rfl|exact O' nH.i (gC h)|cases h
def mkK:TK->Option nH
 | .int k=>some (.i k)
 | .str=>some .str
 | _=>none
def SV.key?:SV->Option (nH×Int)
 | .il k n=>some (.i k,n)
 | .v (.int k n)=>some (.i k,n)
 | .v (.string q)=>some (.str,PI q)
 | _=>none
def Ko(C:Cx PP)(t:Nat):Option (nH×TI):=
 match look C.T t with
 | none=>none
 | some ti=>match ti.k with
  | .mp k e=>match look C.T k,look C.T e with
   | some ki,some ei=>match mkK ki.k with|some kk=>some (kk,ei)|none=>none
   | _,_=>none
  | _=>none
def qf(C:Cx PP)(nm t:Nat):Option DR:=
 match Ko C t with
 | some (kk,ei)=>some ⟨none,.m nm,some (nm,.mp kk (iM ei.k) (λ_=>false) (λ_=>ei.z)),true⟩
 | none=>none
def maps(H:aU)(n:Nat):Option (nH×Bool×(Int->Bool)×(Int->List SV)):=match look H n with|some (.mp k ag has g)=>some (k,ag,has,g)|_=>none
def Cz(a b:Bool):Bool:=match a,b with|true,true=>true|false,false=>true|_,_=>false
def tZ(ag:Bool)(v:SV):Option (List SV):=match ag,v with
 | true,.agg l=>some l
 | false,.agg _=>none
 | false,.tup _=>none
 | false,.v (.agg _)=>none
 | false,.v (.tuple _)=>none
 | false,x=>some [x]
 | _,_=>none
def yd(C:Cx PP)(H:aU)(t:Nat)(x i v:SV):Option DR:=
 match Ko C t,x with
 | some (kk,ei),.m n=>match maps H n,i.key? with
  | some (k,ag,has,g),some (k',q)=>match pY k kk,pY k' kk,tZ ag v with
   | true,true,some l=>match dB l with
    | true=>some ⟨some (∀j,dD l (g j)),.v undef,some (n,.mp k ag (λj=>decide (j=q)||has j) (λj=>jnL (decide (j=q)) l (g j))),false⟩
    | false=>none
   | _,_,_=>none
  | _,_=>none
 | _,_=>none
def mapVal(ag:Bool)(l:List SV):Option SV:=match ag,l with
 | true,l=>some (.agg l)
 | false,[x]=>some x
 | _,_=>none
def ye(C:Cx PP)(H:aU)(t:Nat)(x i:SV)(ok:Bool):Option DR:=
 match Ko C t,x with
 | some (kk,ei),.m n=>match maps H n,i.key? with
  | some (k,ag,has,g),some (k',q)=>match pY k kk,pY k' kk,Cz ag (iM ei.k),mapVal ag (jnL (has q) (g q) ei.z) with
   | true,true,true,some v=>match ok with
    | true=>some ⟨some (dD (g q) ei.z),.tup [v,.v (.bool (has q))],none,false⟩
    | false=>some ⟨some (dD (g q) ei.z),v,none,false⟩
   | _,_,_,_=>none
  | _,_=>none
 | _,_=>none
def exL(c:Operand)(b:Bool):List (Nat×Bool):=match c with
 | .tmp t=>[(t,b)]
 | _=>[]
def Kh:List SV:=[.v (.int .i64 0),.v (.int .i64 0),.v (.int .i64 0),.v (.int .i64 0),.v (.int .i64 0),.v (.int .i64 0),.v (.int .i64 0),.v (.int .i64 0)]
def D(Γ:List (XR C))(fz:Bool)(op:OpF)(H:aU)(nm:Nat):Op->Option DR
 | .move x=>match op [] x with|some v=>dv v|none=>none
 | .assign x=>match op [] x with|some v=>dv v|none=>none
 | .pick c x y=>match op [] c,c with
  | some (.bl true),_=>match op (exL c true) x with|some v=>dv v|none=>none
  | some (.bl false),_=>match op (exL c false) y with|some v=>dv v|none=>none
  | some (.v (.bool b)),.tmp t=>match op [(t,true)] x,op [(t,false)] y with
   | some u,some v=>match JS b u v with|some z=>dv z|none=>none
   | _,_=>none
  | _,_=>none
 | .alloc t=>match look C.T t with|some ti=>some ⟨none,.p nm 0,some (nm,.lay ti.z t),true⟩|none=>none
 | .box t x=>match op [] x with
  | some v=>match jj v with
   | some l=>match zN l with|true=>some ⟨none,.p nm 0,some (nm,.lay l t),true⟩|false=>none
   | none=>none
  | none=>none
 | .build s parts=>match look C.T s,opP op parts.toList with
  | some ti,some ps=>match ti.k with
   | .struct fs=>match Fq C s ti.z ps,QH C fs with|some l,true=>dv (.agg l)|_,_=>none
   | .arr _ e=>match look C.T e with
    | some ei=>match uG ei.sz ti.z ps with|some l=>dv (.agg l)|none=>none
    | none=>none
   | _=>none
  | _,_=>none
 | .load t x=>match op [] x with|some v=>od (EV C H v t)|none=>none
 | .store t x y=>match op [] x,op [] y with|some u,some v=>Cm C H t u v|_,_=>none
 | .fieldAddr s x k=>match op [] x,mJ C s k with
  | some u,some (fo,fi)=>od (lO u fo fi.sz)
  | _,_=>none
 | .field s x k=>match op [] x,mJ C s k with
  | some (.agg l),some (fo,fi)=>match iM fi.k with
   | true=>match takeN fi.sz (l.drop fo) with|some m=>dv (.agg m)|none=>none
   | false=>match l[fo]? with|some c=>dv c|none=>none
  | _,_=>none
 | .binOp o t x y _=>match op [] x,op [] y with
  | some u,some v=>match My (Uv Γ) o u v with
   | some r=>some r
   | none=>match Gb C o t u v with
    | some r=>dv r
    | none=>match MH C o t u v with
     | some r=>dv r
     | none=>od (Ol C o t u v)
  | _,_=>none
 | .unOp o _ x=>match op [] x with|some u=>unD o u|none=>none
 | .extract x k=>match op [] x with
  | some (.tup l)=>match l[k]? with|some v=>dv v|none=>none
  | _=>none
 | .nilCheck x=>match op [] x with
  | some (.p n off)=>dv (.p n off)
  | some (.rp x off)=>dv (.rp x off)
  | some (.gp m e sz i off)=>dv (.gp m e sz i off)
  | some (.kq m i sz j off)=>dv (.kq m i sz j off)
  | some (.v (.pointer none))=>dvo False (.rp Kh 0)
  | _=>none
 | .makeFunc fn first captured=>match opL op first.toList,opL op captured.toList with
  | some x,some y=>dv (.f fn x y)
  | _,_=>none
 | .call c=>Ga Γ op H nm c
 | .convert src dst x=>match op [] x with|some v=>FH C src dst v|none=>none
 | .buildSlice t len parts=>match opP op parts.toList with|some ps=>(match fz,WN Γ with|false,false=>(match WE Γ with|true=>yO C nm t len ps|false=>Dq C nm t len ps)|_,_=>sP C t len ps)|none=>none
 | .makeMap t none=>qf C nm t
 | .mapUpdate t x i v=>match op [] x,op [] i,op [] v with|some x,some i,some v=>yd C H t x i v|_,_,_=>none
 | .lookup t x i ok=>match op [] x,op [] i with|some x,some i=>ye C H t x i ok|_,_=>none
 | .makeSlice t x y=>match op [] x,op [] y with|some u,some v=>Ae C nm t u v|_,_=>none
 | .indexAddr t x i=>match op [] x,op [] i with|some u,some v=>LB C t u v|_,_=>none
 | .index t x i=>match op [] x,op [] i with|some u,some v=>(match jM v with|true=>od (um C t u v)|false=>match C7 C t u v with|some r=>some r|none=>od (um C t u v))|_,_=>none
 | .slice t x low high max=>match op [] x,opO op low,opO op high,opO op max with
  | some u,some a,some b,some c=>(match Sq Γ with|true=>(match Cv C H t u a b c with|some r=>some r|none=>tj C t u a b c)|false=>tj C t u a b c)
  | _,_,_,_=>none
 | _=>none
end Go.Proofs.YtmdpdknpapjchaaGreatDoor
