/- A symbolic executor with lists, 4. -/
import Derived.Test.YtgigkennhdolpaaGreatDoorM1
import Derived.Test.YtgigkennhdolpaaGreatDoorM3
namespace Go.Proofs.YtgigkennhdolpaaGreatDoor
open Go.RowKit
def od:Option SV->Option DR
 | some v=>dv v
 | none=>none
abbrev ZD:=List (Nat×Bool)->Operand->Option SV
abbrev aY:=List (Nat×SB)
def YW(op:ZD):List Operand->Option (List SV)
 | []=>some []
 | x::r=>match op [] x,YW op r with|some a,some b=>some (a::b)|_,_=>none
def opP(op:ZD):List (Nat×Operand)->Option (List (Nat×SV))
 | []=>some []
 | (i,x)::r=>match op [] x,opP op r with|some a,some b=>some ((i,a)::b)|_,_=>none
def opO(op:ZD):Option Operand->Option (Option SV)
 | none=>some none
 | some x=>match op [] x with|some v=>some (some v)|none=>none
def fj{PP:Program}(C:Cx PP)(ρ:Names)(W:World)(nm:Nat)(r:DR)(val:Value)(W':World):Prop:=
 ∃UL,WZ C ρ W nm (r.w.map Prod.fst) r.fr UL W'∧(∀n sb,r.w=some (n,sb)->cS UL W' n sb)∧den UL r.v val
def aD(z:Nat->Nat->Value->Prop):Names:=⟨λ_=>none,λ_=>none,λ_ _=>none,z,[],λ_=>False⟩
def Ga(z:Nat->Nat->Value->Prop)(W W':World)(val:Value)(sz n:Nat)(f:Nat->List SV)(t:TypeId):Prop:=
 ∃(a:Option Addr) (cap:Nat) (z2:Nat->Nat->Value->Prop),(∀b i c,z2 b i c->z b i c)∧val=.slice a n cap∧n<=cap∧(cap≠0->∃(b:Nat) (u:List Value),a=some ⟨b,0,none⟩∧W.heap.size<=b∧WV W' b u.toArray t∧u.length=cap*sz∧(∀c∈u,c.oneCell'=true)∧(∀i c,¬z2 b i c) ∧
  ∀i,i<n->∃us,aj (aD z2) (f i) us∧us.length=sz∧∀k c,us[k]? = some c->u[i*sz+k]? = some c)
def KF(z:Nat->Nat->Value->Prop)(W W':World)(val:Value)(t:TypeId):SV->Prop
 | .rs sz n f=>Ga z W W' val sz n f t
 | .agg [x,.rs sz n f]=>∃u v,val=.agg #[u,v]∧den qS x u∧Ga z W W' v sz n f t
 | _=>False
structure UO {PP:Program} (C:Cx PP) where
 f:FuncId
 en:∀(args:Array Value) (w:World),(callFunc f args).run C.P w=.ok (.enter f args) w
 ns:∀args:Array Value,NS C.P (callFunc f args)
 run:List SV->Option (Option Prop×SV)
  /-- What comes out lies in memory Yu is new. -/
 fresh:Bool
  /-- What comes out is a list Yu nobody else has (of this type). -/
 own:Option TypeId
  /-- A walk whose list of contracts begins with this one: numbers wrap in it. -/
 wr:Bool:=false
 frz:Bool:=false
  /-- Slices Yu are written out are lists of one's own. -/
 lst:Bool:=false
  /-- What X5 function does, where it writes Yb it is handed: said by hand, of X5 heap, X5 next name, its arguments. -/
 eff:Option (aY->Nat->List SV->Option DR):=none
 ok:∀(ze:Nat->Nat->Value->Prop) (W:World) (args:List SV) (vs:List Value) (ob:Option Prop) (out:SV),C.WT W->(∀b i c,ze b i c->W.cell? ⟨b,i,none⟩=some c∧c.oneCell'=true)->aj (aD ze) args vs->run args=some (ob,out)->nB ob->
  br C.P C.co f vs.toArray W λe W'=>∃val z',e=.returned val∧Gr W W'∧(∀b i c,z' b i c->(ze b i c∨W.heap.size<=b)∧W'.cell? ⟨b,i,none⟩=some c∧c.oneCell'=true)∧den (aD z') out val∧(fresh=true->∀b i c,z' b i c->W.heap.size<=b)∧(∀t,own=some t->KF z' W W' val t out)
 effOk:∀g,eff=some g->∀(ρ:Names) (W:World) (H:aY) (nm:Nat) (args:List SV) (vs:List Value) (r:DR),VQ C H ρ W->(r.fr=true->ρ.v nm=none)->aj ρ args vs->g H nm args=some r->r.Ob->
  br C.P C.co f vs.toArray W λe W'=>∃val,e=.returned val∧fj C ρ W nm r val W':=by intro g h;cases h
def Ru{PP:Program}{C:Cx PP} : List (UO C)->Bool
 | []=>false
 | c::_=>c.wr
def TW{PP:Program}{C:Cx PP} : List (UO C)->Bool
 | []=>false
 | c::_=>c.frz
def TS{PP:Program}{C:Cx PP} : List (UO C)->Bool
 | []=>false
 | c::_=>c.lst
def y5{PP:Program}{C:Cx PP} : List (UO C)->Nat->Option (UO C)
 | [],_=>none
 | c::r,n=>match Nat.beq c.f n with|true=>some c|false=>y5 r n
theorem wO{PP:Program}{C:Cx PP} : ∀{l:List (UO C)} {n:Nat} {c:UO C},y5 l n=some c->c.f=n
 | [],_,_,h=>by simp[y5] at h
 | d::r,n,c,h=>by simp only[y5] at h;split at h;rename_i hb;obtain rfl:=Oi h;exact Nb hb;exact wO h
mutual
def lF:SV->Bool
 | .v _=>true
 | .il _ _=>true
 | .bl _=>true
 | .p _ _=>false
 | .s _ _ _ _ _=>false
 | .f _ x y=>match da x with|true=>da y|false=>false
 | .agg l=>da l
 | .tup l=>da l
 | .e=>true
 | .rs _ _ _=>true
 | .rp _ _=>true
 | .g _ _ _ _ _=>false
 | .gp _ _ _ _ _=>false
 | .m _=>false
 | .kd _ _ _ _ _=>false
 | .kq _ _ _ _ _=>false
def da:List SV->Bool
 | []=>true
 | x::r=>match lF x with|true=>da r|false=>false
end
mutual
def sO:SV->Bool
 | .v _=>true
 | .il _ _=>true
 | .bl _=>true
 | .p _ _=>false
 | .s _ _ _ _ _=>false
 | .f _ x y=>match gl x with|true=>gl y|false=>false
 | .agg l=>gl l
 | .tup l=>gl l
 | .e=>true
 | .rs _ _ _=>false
 | .rp _ _=>false
 | .g _ _ _ _ _=>false
 | .gp _ _ _ _ _=>false
 | .m _=>false
 | .kd _ _ _ _ _=>false
 | .kq _ _ _ _ _=>false
def gl:List SV->Bool
 | []=>true
 | x::r=>match sO x with|true=>gl r|false=>false
end
def chunk(l:List SV)(sz i:Nat):List SV:=(l.drop (i*sz)).take sz
def LL(H:aY)(m e sz:Nat):Option (Nat×(Nat->List SV)×Nat×Nat×(Nat->Nat×(Nat->List SV))×TypeId×TypeId):=match look H m with
 | some (.nst e' U9 N h p Vb g tk t none)=>match Nat.beq e e',Nat.beq sz U9 with|true,true=>some (N,h,p,Vb,g,tk,t)|_,_=>none
 | _=>none
def kids(H:aY)(m Vb:Nat):Option (Nat×Nat×Nat×(Nat->List SV)×Nat×(Nat->Nat×(Nat->List SV))×TypeId×TypeId):=match look H m with
 | some (.nst e sz N h p ZW g tk t none)=>match Nat.beq Vb ZW with|true=>some (e,sz,N,h,p,g,tk,t)|_=>none
 | _=>none
def EL(h:Nat->List SV)(p Vb:Nat)(g:Nat->Nat×(Nat->List SV))(i:Nat):List SV:=(h i).set p (.rs Vb (g i).1 (g i).2)
def Se(m:Nat)(h:Nat->List SV)(p Vb:Nat)(g:Nat->Nat×(Nat->List SV))(i:Nat):List SV:=(h i).set p (.kd m i Vb 0 (g i).1)
mutual
def fzS(rec:List SV->Option (List SV))(H:aY):SV->Option SV
 | .p n off=>match look H n with
  | some (.lay cs _)=>match rec cs with|some l=>some (.rp l off)|none=>none
  | _=>none
 | .s n sz off len cap=>match look H n with
  | some (.lay cs _)=>match rec cs with
   | some l=>match Nat.ble (off+len*sz) l.length,Nat.ble len cap with|true,true=>some (.rs sz len (λi=>chunk (l.drop off) sz i))|_,_=>none
   | none=>none
  | _=>none
 | .g m e sz off n=>match look H m with
  | some (.lst e' U9 _ h _)=>match Nat.beq e e',Nat.beq sz U9 with|true,true=>some (.rs sz n (λi=>h (off+i)))|_,_=>none
  | some (.nst e' U9 _ h p Vb g _ _ none)=>match Nat.beq e e',Nat.beq sz U9 with|true,true=>some (.rs sz n (λi=>EL h p Vb g (off+i)))|_,_=>none
  | _=>none
 | .gp m e sz i off=>match look H m with
  | some (.lst e' U9 _ h _)=>match Nat.beq e e',Nat.beq sz U9 with|true,true=>some (.rp (h i) off)|_,_=>none
  | some (.nst e' U9 _ h p Vb g _ _ none)=>match Nat.beq e e',Nat.beq sz U9 with|true,true=>some (.rp (EL h p Vb g i) off)|_,_=>none
  | _=>none
 | .kd m i sz off n=>match kids H m sz with
  | some (_,_,_,_,_,g,_,_)=>some (.rs sz n (λj=>(g i).2 (off+j)))
  | none=>none
 | .kq m i sz j off=>match kids H m sz with
  | some (_,_,_,_,_,g,_,_)=>some (.rp ((g i).2 j) off)
  | none=>none
 | .f fn x y=>match fzL rec H x,fzL rec H y with|some a,some b=>some (.f fn a b)|_,_=>none
 | .agg l=>match fzL rec H l with|some a=>some (.agg a)|none=>none
 | .tup l=>match fzL rec H l with|some a=>some (.tup a)|none=>none
 | .m _=>none
 | x=>some x
def fzL(rec:List SV->Option (List SV))(H:aY):List SV->Option (List SV)
 | []=>some []
 | x::r=>match fzS rec H x,fzL rec H r with|some a,some b=>some (a::b)|_,_=>none
end
def fzK(H:aY):Nat->List SV->Option (List SV)
 | 0=>fzL (λ_=>none) H
 | k+1=>fzL (fzK H k) H
mutual
def frS(H:aY):SV->Option (SV×List Prop)
 | .s n sz off len cap=>match look H n with
  | some (.lay cs _)=>match Nat.ble (off+len*sz) cs.length,Nat.ble len cap,gl cs with|true,true,true=>some (.rs sz len (λi=>chunk (cs.drop off) sz i),[])|_,_,_=>none
  | _=>none
 | .g m e sz off n=>match look H m with
  | some (.lst e' U9 _ h _)=>match Nat.beq e e',Nat.beq sz U9 with|true,true=>some (.rs sz n (λi=>h (off+i)),[∀i,i<n->gl (h (off+i))=true])|_,_=>none
  | some (.nst e' U9 _ h p Vb g _ _ none)=>match Nat.beq e e',Nat.beq sz U9 with|true,true=>some (.rs sz n (λi=>EL h p Vb g (off+i)),[∀i,i<n->gl ((h (off+i)).set p .e)=true,∀i,i<n->∀j,j<(g (off+i)).1->gl ((g (off+i)).2 j)=true])|_,_=>none
  | _=>none
 | .agg l=>match frL H l with|some (a,ps)=>some (.agg a,ps)|none=>none
 | .tup l=>match frL H l with|some (a,ps)=>some (.tup a,ps)|none=>none
 | .v x=>some (.v x,[])
 | .il k n=>some (.il k n,[])
 | .bl b=>some (.bl b,[])
 | .e=>some (.e,[])
 | .p _ _=>none
 | .gp _ _ _ _ _=>none
 | .kd _ _ _ _ _=>none
 | .kq _ _ _ _ _=>none
 | .f _ _ _=>none
 | .m _=>none
 | .rs _ _ _=>none
 | .rp _ _=>none
def frL(H:aY):List SV->Option (List SV×List Prop)
 | []=>some ([],[])
 | x::r=>match frS H x,frL H r with|some (a,ps),some (b,qs)=>some (a::b,ps++qs)|_,_=>none
end
def qg{PP:Program}(C:Cx PP)(cs:List SV)(off:Nat)(t:TypeId):Option SV:=
 match look C.T t with
 | none=>none
 | some ti=>match gY ti.k with
  | true=>match takeN ti.sz (cs.drop off) with|some l=>some (.agg l)|none=>none
  | false=>cs[off]?
def EV(H:aY)(m e sz:Nat):Option (Nat×(Nat->List SV)×TypeId):=match look H m with
 | some (.lst e' U9 N h t)=>match Nat.beq e e',Nat.beq sz U9 with|true,true=>some (N,h,t)|_,_=>none
 | _=>none
def wA(H:aY)(n:Nat):Option (List SV×TypeId):=match look H n with|some (.lay cs t)=>some (cs,t)|_=>none
def CW{PP:Program}(C:Cx PP)(H:aY)(x:SV)(t:TypeId):Option SV:=
 match x with
 | .p n off=>match wA H n with|some (cs,_)=>qg C cs off t|none=>none
 | .v (.pointer (some ⟨b,off,none⟩))=>match look C.G b with|some sb=>qg C sb.1 off t|none=>none
 | .rp x off=>qg C x off t
 | .gp m e sz i off=>match EV H m e sz with
  | some (_,h,_)=>qg C (h i) off t
  | none=>match LL H m e sz with|some (_,h,p,Vb,g,_,_)=>qg C (Se m h p Vb g i) off t|none=>none
 | .kq m i sz j off=>match kids H m sz with|some (_,_,_,_,_,g,_,_)=>qg C ((g i).2 j) off t|none=>none
 | _=>none
def My:TK->Option (List (Nat×Nat))
 | .struct fs=>some fs
 | _=>none
def lS{PP:Program}(C:Cx PP)(s:TypeId)(k:Nat):Option (Nat×TI):=
 match look C.T s with
 | none=>none
 | some ti=>match My ti.k with
  | none=>none
  | some fs=>match fs[k]? with
   | none=>none
   | some (off,ft)=>match look C.T ft with|some fi=>some (off,fi)|none=>none
def kQ(x:SV)(fo sz:Nat):Option SV:=
 match sz with
 | 0=>none
 | _+1=>match x with
  | .p n off=>some (.p n (off+fo))
  | .v (.pointer (some ⟨b,off,none⟩))=>some (.v (.pointer (some ⟨b,off+fo,none⟩)))
  | .rp x off=>some (.rp x (off+fo))
  | .gp m e sz i off=>some (.gp m e sz i (off+fo))
  | .kq m i sz j off=>some (.kq m i sz j (off+fo))
  | _=>none
def NT{PP:Program}(C:Cx PP):List (Nat×Nat)->Bool
 | []=>true
 | (_,t)::r=>match look C.T t with|some _=>NT C r|none=>false
def iG:SV->Option (List SV)
 | .agg l=>some l
 | .tup _=>none
 | .v (.agg _)=>none
 | .v (.tuple _)=>none
 | x=>some [x]
def Ot:SV->Bool
 | .agg _=>false
 | .tup _=>false
 | .v (.agg _)=>false
 | .v (.tuple _)=>false
 | _=>true
def ya:List SV->Bool
 | []=>true
 | x::r=>match Ot x with|true=>ya r|false=>false
def Dl{PP:Program}(C:Cx PP)(s:TypeId):List SV->List (Nat×SV)->Option (List SV)
 | z,[]=>some z
 | z,(i,x)::r=>match lS C s i,iG x with
  | some (off,fi),some l=>match Nat.beq l.length fi.sz,Nat.ble (off+fi.sz) z.length with
   | true,true=>match laid (z.take off++l++z.drop (off+fi.sz)) with|some z'=>Dl C s z' r|none=>none
   | _,_=>none
  | _,_=>none
def je:SV->Bool
 | .il _ _=>true
 | _=>false
def Su:BinOp->Bool
 | .shl=>true
 | .shr=>true
 | _=>false
def Nw(op:BinOp)(x y:SV):Option DR:=
 match x.int?,y.int? with
 | some (k,a),some (k',b)=>match Su op with
  | true=>Cp op k (je x) (je y) a b
  | false=>match lA k k' with|true=>xe op k (je x) (je y) a b|false=>none
 | _,_=>none
def J8(w:Bool)(op:BinOp)(x y:SV):Option DR:=
 match w with
 | false=>Nw op x y
 | true=>match x.int?,y.int? with
  | some (k,a),some (k',b)=>match Su op with
   | true=>Cp op k (je x) (je y) a b
   | false=>match lA k k' with|true=>xd op k (je x) (je y) a b|false=>none
  | _,_=>none
def D5{PP:Program}(C:Cx PP)(op:BinOp)(t:TypeId)(x y:SV):Option SV:=
 match op,x.bool?,y.bool?,look C.T t with
 | .eql,some a,some b,some ti=>match ti.k with|.bool=>some (.v (.bool (a==b)))|_=>none
 | .neq,some a,some b,some ti=>match ti.k with|.bool=>some (.v (.bool (a != b)))|_=>none
 | _,_,_,_=>none
def zl{PP:Program}(C:Cx PP)(h:Nat->List SV->List SV->Option Bool)(xs ys:List SV):List (Nat×Nat)->Option Bool
 | []=>some true
 | (off,ft)::r=>match look C.T ft with
  | none=>none
  | some fi=>match takeN fi.sz (xs.drop off),takeN fi.sz (ys.drop off) with
   | some x,some y=>match h ft x y with
    | none=>none
    | some b=>match r with
     | []=>some b
     | _::_=>match zl C h xs ys r with|some c=>some (b&&c)|none=>none
   | _,_=>none
def zS(e sz:Nat):Nat->Nat->List (Nat×Nat)
 | _,0=>[]
 | i,n+1=>(i*sz,e)::zS e sz (i+1) n
def eqT{PP:Program}(C:Cx PP):Nat->Nat->List SV->List SV->Option Bool
 | 0,_,_,_=>none
 | k+1,t,xs,ys=>match look C.T t with
  | none=>none
  | some ti=>match ti.k with
   | .struct fs=>match ti.eq with|true=>zl C (eqT C k) xs ys fs|false=>none
   | .arr n e=>match look C.T e with
    | some ei=>zl C (eqT C k) xs ys (zS e ei.sz 0 n)
    | none=>none
   | .int _=>match xs,ys with
    | [x],[y]=>match x.int?,y.int? with
     | some (k1,a),some (k2,b)=>match lA k1 k2 with|true=>some (decide (a=b))|false=>none
     | _,_=>none
    | _,_=>none
   | .bool=>match xs,ys with
    | [x],[y]=>match x.bool?,y.bool? with|some a,some b=>some (a==b)|_,_=>none
    | _,_=>none
   | _=>none
def Ki(a b:Bool):Bool:=match a with|true=>b|false=>false
theorem fF{a b:Bool}(h:Ki a b=true):a=true∧b=true:=by cases a<;>first|exact⟨rfl,h⟩|cases h
def yc:List SV->Bool
 | []=>true
 | x::r=>match x.int? with|some _=>yc r|none=>match x.bool? with|some _=>yc r|none=>false
def Kk{PP:Program}(C:Cx PP)(op:BinOp)(t:TypeId)(x y:SV):Option SV:=
 match op,x,y with
 | .eql,.agg xs,.agg ys=>match look C.T t with
  | some ti=>match ti.eq,Ki (yc xs) (Ki (yc ys) (gY ti.k)) with
   | true,true=>match eqT C 4 t xs ys with|some c=>some (.v (.bool c))|none=>none
   | _,_=>none
  | none=>none
 | .neq,.agg xs,.agg ys=>match look C.T t with
  | some ti=>match ti.eq,Ki (yc xs) (Ki (yc ys) (gY ti.k)) with
   | true,true=>match eqT C 4 t xs ys with|some c=>some (.v (.bool (!c)))|none=>none
   | _,_=>none
  | none=>none
 | _,_,_=>none
def Bn:SV->Bool
 | .v (.pointer none)=>true
 | _=>false
def AW:SV->Option Bool
 | .v (.pointer none)=>some true
 | .rp _ _=>some false
 | .p _ _=>some false
 | .gp _ _ _ _ _=>some false
 | .kq _ _ _ _ _=>some false
 | _=>none
def IN:TK->Bool
 | .ptr=>true
 | _=>false
def Lz{PP:Program}(C:Cx PP)(op:BinOp)(t:TypeId)(x y:SV):Option SV:=
 match AW x,Bn y,look C.T t with
 | some b,true,some ti=>match IN ti.k,op with
  | true,.eql=>some (.bl b)
  | true,.neq=>some (.bl (!b))
  | _,_=>none
 | _,_,_=>none
def unD(op:UnOp)(x:SV):Option DR:=
 match op,x with
 | .not,.bl b=>dv (.bl (!b))
 | .not,.v (.bool b)=>dv (.v (.bool (!b)))
 | .neg,x=>match x.int? with|some (k,n)=>arI k (je x) none (-n)|none=>none
 | _,_=>none
def DG{PP:Program}(C:Cx PP)(src dst:TypeId)(x:SV):Option DR:=
 match look C.T src,look C.T dst with
 | some _,some ti=>match ti.k with
  | .int k=>match x.int? with
   | some (k',n)=>match lA k' .u64,je x with
    | true,false=>dv (.v (.int k (k.wrap n)))
    | _,_=>arI k (je x) none n
   | none=>none
  | _=>none
 | _,_=>none
def Dw:TK->Option Nat
 | .sl e=>some e
 | _=>none
def EC:Nat->List SV->List SV
 | 0,_=>[]
 | n+1,l=>l++EC n l
def sR(sz:Nat):List SV->List (Nat×SV)->Option (List SV)
 | z,[]=>some z
 | z,(i,x)::r=>match iG x with
  | some l=>match Nat.beq l.length sz,Nat.ble (i*sz+sz) z.length with
   | true,true=>match laid (z.take (i*sz)++l++z.drop (i*sz+sz)) with|some z'=>sR sz z' r|none=>none
   | _,_=>none
  | none=>none
def BF{PP:Program}(C:Cx PP)(nm:Nat)(t len:Nat)(ps:List (Nat×SV)):Option DR:=
 match look C.T t with
 | none=>none
 | some ti=>match Dw ti.k with
  | none=>none
  | some e=>match look C.T e with
   | none=>none
   | some ei=>match len,ps with
    | 0,[]=>dv .e
    | _,_=>match Nat.beq (len*ei.sz) 0,Nat.ble (len*ei.sz) 16777216,Nat.beq ei.z.length ei.sz with
     | false,true,true=>match sR ei.sz (EC len ei.z) ps with
      | some l=>match ya l with
       | true=>some ⟨none,.s nm ei.sz 0 len len,some (nm,.lay l e),true⟩
       | false=>none
      | none=>none
     | _,_,_=>none
def rl{PP:Program}(C:Cx PP)(t len:Nat)(ps:List (Nat×SV)):Option DR:=
 match look C.T t with
 | none=>none
 | some ti=>match Dw ti.k with
  | none=>none
  | some e=>match look C.T e with
   | none=>none
   | some ei=>match Nat.beq (len*ei.sz) 0,Nat.ble (len*ei.sz) 16777216,Nat.beq ei.z.length ei.sz with
     | false,true,true=>match sR ei.sz (EC len ei.z) ps with
      | some l=>match ya l,da l,Nat.beq l.length (len*ei.sz) with
       | true,true,true=>dv (.rs ei.sz len (λi=>chunk l ei.sz i))
       | _,_,_=>none
      | none=>none
     | _,_,_=>none
def PX:Nat->List SV->Nat->Nat->List SV
 | 1,l,_,_=>l
 | _,l,sz,i=>chunk l sz i
def xc{PP:Program}(C:Cx PP)(nm:Nat)(t len:Nat)(ps:List (Nat×SV)):Option DR:=
 match look C.T t with
 | none=>none
 | some ti=>match Dw ti.k with
  | none=>none
  | some e=>match look C.T e with
   | none=>none
   | some ei=>match Nat.beq (len*ei.sz) 0,Nat.ble (len*ei.sz) 16777216,Nat.beq ei.z.length ei.sz with
     | false,true,true=>match sR ei.sz (EC len ei.z) ps with
      | some l=>match ya l,da l,Nat.beq l.length (len*ei.sz) with
       | true,true,true=>some ⟨none,.g nm nm ei.sz 0 len,some (nm,.lst nm ei.sz len (PX len l ei.sz) e),true⟩
       | _,_,_=>none
      | none=>none
     | _,_,_=>none
def fzB:List (Nat×Bool)->Bool
 | []=>false
 | _::_=>true
def natLit:SV->Option Nat
 | .il _ (.ofNat k)=>some k
 | .v (.int _ (.ofNat k))=>some k
 | _=>none
def gN{PP:Program}(C:Cx PP)(t:Nat):Option (Nat×TI):=
 match look C.T t with
 | none=>none
 | some ti=>match Dw ti.k with
  | none=>none
  | some e=>match look C.T e with|some ei=>some (e,ei)|none=>none
def uj{PP:Program}(C:Cx PP)(t:Nat):Option (Nat×Nat×TI):=
 match look C.T t with
 | none=>none
 | some ti=>match ti.k with
  | .arr len e=>match look C.T e with|some ei=>some (len,e,ei)|none=>none
  | _=>none
def Jm{PP:Program}(C:Cx PP)(t:Nat)(x i:SV):Option DR:=
 match x with
 | .s n sz off len _=>match gN C t,natLit i with
  | some (_,ei),some k=>match Nat.blt k len,Nat.beq ei.sz sz with|true,true=>dv (.p n (off+k*sz))|_,_=>none
  | _,_=>none
 | .rs sz n h=>match gN C t,i.int? with
  | some (_,ei),some (_,k)=>match Nat.beq ei.sz sz with|true=>Za (0<=k∧k<n) (.rp (h k.toNat) 0)|false=>none
  | _,_=>none
 | .g m e sz off n=>match gN C t,i.int? with
  | some (_,ei),some (_,k)=>match Nat.beq ei.sz sz with|true=>Za (0<=k∧k<n) (.gp m e sz (off+k.toNat) 0)|false=>none
  | _,_=>none
 | .p n off=>match uj C t,natLit i with
  | some (len,_,ei),some k=>match Nat.blt k len with|true=>dv (.p n (off+k*ei.sz))|false=>none
  | _,_=>none
 | .rp x off=>match uj C t,natLit i with
  | some (len,_,ei),some k=>match Nat.blt k len with|true=>dv (.rp x (off+k*ei.sz))|false=>none
  | _,_=>none
 | .gp m e sz j off=>match uj C t,natLit i with
  | some (len,_,ei),some k=>match Nat.blt k len with|true=>dv (.gp m e sz j (off+k*ei.sz))|false=>none
  | _,_=>none
 | .kd m q sz off n=>match gN C t,i.int? with
  | some (_,ei),some (_,k)=>match Nat.beq ei.sz sz with|true=>Za (0<=k∧k<n) (.kq m q sz (off+k.toNat) 0)|false=>none
  | _,_=>none
 | .kq m q sz j off=>match uj C t,natLit i with
  | some (len,_,ei),some k=>match Nat.blt k len with|true=>dv (.kq m q sz j (off+k*ei.sz))|false=>none
  | _,_=>none
 | .v (.pointer (some ⟨b,off,none⟩))=>match uj C t,natLit i with
  | some (len,_,ei),some k=>match Nat.blt k len with|true=>dv (.v (.pointer (some ⟨b,off+k*ei.sz,none⟩)))|false=>none
  | _,_=>none
 | _=>none
def sF{PP:Program}(C:Cx PP)(t:Nat)(x i:SV):Option SV:=
 match x,uj C t,natLit i with
 | .agg l,some (len,_,ei),some k=>match Nat.blt k len,gY ei.k with
  | true,true=>match takeN ei.sz (l.drop (k*ei.sz)) with|some m=>some (.agg m)|none=>none
  | true,false=>l[k*ei.sz]?
  | false,_=>none
 | _,_,_=>none
def Nn(k:IntKind)(sz c:Nat):Nat->List SV->Option (List Int)
 | 0,_=>some []
 | m+1,l=>match l[c]? with
  | none=>none
  | some x=>match x.int?,Nn k sz c m (l.drop sz) with
   | some (k',n),some r=>match lA k k' with|true=>some (n::r)|false=>none
   | _,_=>none
def DO(n:Int)(sz m:Nat)(l:List SV):Nat->List SV->Option (List SV)
 | _,[]=>some []
 | c,z::zs=>match z.int? with
  | some (k,_)=>match Nn k sz c m l,DO n sz m l (c+1) zs with
   | some r,some rs=>some (.v (.int k (r.getD n.toNat 0))::rs)
   | _,_=>none
  | none=>none
def Bo{PP:Program}(C:Cx PP)(t:Nat)(x i:SV):Option DR:=
 match x,uj C t with
 | .agg l,some (len,_,ei)=>match gY ei.k,i.int? with
  | true,some (_,n)=>match Nat.beq ei.z.length ei.sz,DO n ei.sz len l 0 ei.z with
   | true,some cs=>Za (0<=n∧n<len) (.agg cs)
   | _,_=>none
  | _,_=>none
 | _,_=>none
def Sq{PP:Program}(C:Cx PP)(t:TypeId)(x:SV):Option SV:=
 match look C.T t with
 | some ti=>match ti.k,x with
  | .str,.v (.string s)=>some (.v (.int .i64 s.size))
  | _,_=>none
 | none=>none
def PY{PP:Program}(C:Cx PP)(ats:Array TypeId)(l:List SV):Option SV:=
 match l,ats.toList with
 | [x],t::_=>match Sq C t x with
  | some r=>some r
  | none=>match gN C t with
   | some _=>match x with
    | .s _ _ _ len _=>some (.il .i64 (.ofNat len))
    | .rs _ n _=>some (.v (.int .i64 n))
    | .g _ _ _ _ n=>some (.v (.int .i64 n))
    | .kd _ _ _ _ n=>some (.v (.int .i64 n))
    | .e=>some (.il .i64 0)
    | .v (.slice none 0 0)=>some (.il .i64 0)
    | _=>none
   | none=>none
 | _,_=>none
def HC(H:aY)(sz:Nat):SV->Option (Nat×(Nat->List SV))
 | .e=>some (0,λ_=>[])
 | .v (.slice none 0 0)=>some (0,λ_=>[])
 | .rs U9 n h=>match Nat.beq sz U9 with|true=>some (n,h)|false=>none
 | .g m e U9 off n=>match EV H m e U9,Nat.beq sz U9 with|some (_,h,_),true=>some (n,λi=>h (off+i))|_,_=>none
 | .kd m i U9 off n=>match kids H m U9,Nat.beq sz U9 with|some (_,_,_,_,_,g,_,_),true=>some (n,λj=>(g i).2 (off+j))|_,_=>none
 | .s n U9 off len cap=>match wA H n,Nat.beq sz U9 with
  | some (cs,_),true=>match laid ((cs.drop off).take (len*sz)) with
   | some l=>match Nat.beq l.length (len*sz),da l,len with
    | true,true,1=>some (1,λ_=>l)
    | true,true,_=>some (len,λi=>chunk l sz i)
    | _,_,_=>none
   | none=>none
  | _,_=>none
 | _=>none
def dW(n bytes:Nat):Prop:=n<=maxLen∧n*bytes<=140737488355328
def Kf(N:Nat)(h k:Nat->List SV):Nat->List SV:=λi=>ZF (Nat.ble N i) (k (i-N)) (h i)
def Kg{PP:Program}(C:Cx PP)(H:aY)(nm:Nat)(t:Nat)(x y:SV):Option DR:=
 match gN C t with
 | none=>none
 | some (e,ei)=>match Nat.beq ei.sz 0,Nat.beq ei.z.length ei.sz,HC H ei.sz y with
  | false,true,some (m,k)=>match x with
   | .e=>some ⟨some (dW m ei.nb),.g nm nm ei.sz 0 m,some (nm,.lst nm ei.sz m k e),true⟩
   | .v (.slice none 0 0)=>some ⟨some (dW m ei.nb),.g nm nm ei.sz 0 m,some (nm,.lst nm ei.sz m k e),true⟩
   | .g l ep sz 0 n=>match EV H l ep sz,Nat.beq ei.sz sz with
    | some (_,h,e'),true=>match Nat.beq e e' with
     | true=>some ⟨some (dW (n+m) ei.nb∧∀i,i<n->∀j,eV (k j) (h i)),.g l nm sz 0 (n+m),some (l,.lst nm sz (n+m) (Kf n h k) e),true⟩
     | false=>none
    | _,_=>none
   | _=>none
  | _,_,_=>none
def Ke{PP:Program}(C:Cx PP)(H:aY)(nm:Nat)(t:Nat)(x y:SV):Option DR:=
 match gN C t with
 | none=>none
 | some (e,ei)=>match x with
  | .g l ep sz 0 n=>match LL H l ep sz,Nat.beq ei.sz sz,Nat.beq sz 0,Nat.beq ei.z.length ei.sz with
   | some (N,h,p,Vb,g,tk,t'),true,false,true=>match Nat.beq e t',y with
    | true,.s n2 sz2 off 1 _=>match wA H n2,Nat.beq sz sz2 with
     | some (cs,_),true=>match laid ((cs.drop off).take sz) with
      | some c=>match Nat.beq c.length sz with
       | true=>some ⟨some (dW (n+1) ei.nb∧n=N),.g l nm sz 0 (n+1),some (l,.nst nm sz N h p Vb g tk t' (some c)),true⟩
       | false=>none
      | none=>none
     | _,_=>none
    | _,_=>none
   | _,_,_,_=>none
  | _=>none
def yu{PP:Program}(C:Cx PP)(nm:Nat)(t:Nat)(x y:SV):Option DR:=
 match gN C t,x.int?,y.int? with
 | some (e,ei),some (_,n),some (_,m)=>match Nat.beq ei.sz 0,Nat.beq ei.z.length ei.sz with
  | false,true=>some ⟨some (0<=n∧n<=m∧dW m.toNat ei.nb),.g nm nm ei.sz 0 n.toNat,some (nm,.lst nm ei.sz n.toNat (λ_=>ei.z) e),true⟩
  | _,_=>none
 | _,_,_=>none
def Ug(off n j:Nat):Bool:=match Nat.ble off j with|true=>Nat.blt j (off+n)|false=>false
def vi(f:Nat->List SV)(n:Nat):Nat->Nat->List SV->List SV
 | _,0,cs=>cs
 | _,_+1,[]=>[]
 | i,r+1,c::cs=>ZF (Nat.blt i n) (f i) [c]++vi f n (i+1) r cs
def DF(f:Nat->List SV):Nat->Nat->List SV->Prop
 | _,0,_=>True
 | _,_+1,[]=>True
 | i,r+1,c::cs=>eV (f i) [c]∧DF f (i+1) r cs
def JB{PP:Program}(C:Cx PP)(H:aY)(t:Nat)(x y:SV):Option DR:=
 match gN C t with
 | none=>none
 | some (_,ei)=>match Nat.beq ei.sz 1 with
  | false=>none
  | true=>match x,y with
   | .s _ _ _ _ _,.v (.slice none 0 0)=>dv (.il .i64 0)
   | .s m sz off len _,.s m' U9 VV XL _=>match Nat.beq sz 1,Nat.beq U9 1,wA H m,wA H m' with
    | true,true,some (cs,ty),some (X',_)=>match laid ((X'.drop VV).take (min XL len)) with
     | some l=>match Nat.beq l.length (min XL len),Nat.ble (off+l.length) cs.length,laid (cs.take off++l++cs.drop (off+l.length)) with
      | true,true,some c2=>some ⟨none,.il .i64 l.length,some (m,.lay c2 ty),false⟩
      | _,_,_=>none
     | none=>none
    | _,_,_,_=>none
   | .s m sz off len _,.rs U9 n f=>match Nat.beq sz 1,Nat.beq U9 1,wA H m with
    | true,true,some (cs,ty)=>match Nat.ble (off+len) cs.length,laid (cs.take off++vi f n 0 len (cs.drop off)) with
     | true,some c2=>some ⟨some (DF f 0 len (cs.drop off)),.v (.int .i64 (min n len:Nat)),some (m,.lay c2 ty),false⟩
     | _,_=>none
    | _,_,_=>none
   | _,_=>none
def AN{PP:Program}(C:Cx PP)(t:Nat)(x:SV)(low high max:Option SV):Option DR:=
 match x with
 | .rs sz n h=>match gN C t with
  | some (_,ei)=>match Nat.beq ei.sz sz,low,high,max with
   | true,none,some hi,none=>match hi.int? with|some (_,b)=>Za (0<=b∧b<=n) (.rs sz b.toNat h)|none=>none
   | true,some lo,none,none=>match lo.int? with|some (_,a)=>Za (0<=a∧a<=n) (.rs sz (n-a.toNat) (λi=>h (a.toNat+i)))|none=>none
   | true,some lo,some hi,none=>match lo.int?,hi.int? with|some (_,a),some (_,b)=>Za (0<=a∧a<=b∧b<=n) (.rs sz (b.toNat-a.toNat) (λi=>h (a.toNat+i)))|_,_=>none
   | true,none,some (.il _ 0),some (.il _ 0)=>dv .e
   | true,none,none,none=>dv (.rs sz n h)
   | _,_,_,_=>none
  | none=>none
 | .g m e sz off n=>match gN C t with
  | some (_,ei)=>match Nat.beq ei.sz sz,low,high,max with
   | true,none,some hi,none=>match hi.int? with|some (_,b)=>Za (0<=b∧b<=n) (.g m e sz off b.toNat)|none=>none
   | true,some lo,none,none=>match lo.int? with|some (_,a)=>Za (0<=a∧a<=n) (.g m e sz (off+a.toNat) (n-a.toNat))|none=>none
   | true,some lo,some hi,none=>match lo.int?,hi.int? with|some (_,a),some (_,b)=>Za (0<=a∧a<=b∧b<=n) (.g m e sz (off+a.toNat) (b.toNat-a.toNat))|_,_=>none
   | true,none,some (.il _ 0),some (.il _ 0)=>dv .e
   | true,none,none,none=>dv (.g m e sz off n)
   | _,_,_,_=>none
  | none=>none
 | .s n sz off len cap=>match gN C t with
  | some (_,ei)=>match Nat.beq ei.sz sz,low,high,max with
   | true,none,none,none=>dv (.s n sz off len cap)
   | true,none,some (.il _ 0),some (.il _ 0)=>dv .e
   | _,_,_,_=>none
  | none=>none
 | .p n off=>match uj C t with
  | some (len,_,ei)=>match low,high,max,len with
   | none,none,none,_+1=>dv (.s n ei.sz off len len)
   | _,_,_,_=>none
  | none=>none
 | .e=>match gN C t,low,high,max with
  | some _,none,none,none=>dv .e
  | some _,none,some (.il _ 0),some (.il _ 0)=>dv .e
  | some _,none,some (.il _ 0),none=>dv .e
  | _,_,_,_=>none
 | .v (.slice none 0 0)=>match gN C t,low,high,max with
  | some _,none,none,none=>dv .e
  | some _,none,some (.il _ 0),some (.il _ 0)=>dv .e
  | some _,none,some (.il _ 0),none=>dv .e
  | _,_,_,_=>none
 | _=>none
def callee:SV->Option (Nat×List SV×List SV)
 | .v (.func (.func g) ⟨[]⟩ ⟨[]⟩)=>some (g,[],[])
 | .f (.func g) first captured=>some (g,first,captured)
 | _=>none
def O4{PP:Program}{C:Cx PP}(con:UO C)(H:aY)(nm:Nat)(al:List SV):Option DR:=
 match con.own with
 | some t=>match (match da al with|true=>some al|false=>match con.fresh with|true=>fzK H 3 al|false=>none) with
  | some Zc=>match con.run Zc with
   | some (ob,out)=>match out with
    | .rs sz n f=>some ⟨ob,.g nm nm sz 0 n,some (nm,.lst nm sz n f t),true⟩
    | .agg [x,.rs sz n f]=>some ⟨ob,.agg [x,.g nm nm sz 0 n],some (nm,.lst nm sz n f t),true⟩
    | _=>none
   | none=>none
  | none=>none
 | none=>
 match da al with
 | true=>match con.run al with|some (ob,out)=>some ⟨ob,out,none,false⟩|none=>none
 | false=>match fzK H 3 al with
  | some Zc=>match con.run Zc with
   | some (ob,out)=>match con.fresh with
    | true=>some ⟨ob,out,none,false⟩
    | false=>match sO out with|true=>some ⟨ob,out,none,false⟩|false=>none
   | none=>none
  | none=>none
def mm2(mx:Bool)(x y:SV):Option SV:=match x.int?,y.int? with
 | some (k,a),some (k',b)=>match lA k k' with
  | true=>match je x,je y,mx with
   | true,true,true=>some (.il k (max a b))
   | true,true,false=>some (.il k (min a b))
   | _,_,true=>some (.v (.int k (max a b)))
   | _,_,false=>some (.v (.int k (min a b)))
  | false=>none
 | _,_=>none
def mmF(mx:Bool):SV->List SV->Option SV
 | x,[]=>some x
 | x,y::r=>match mm2 mx x y with|some z=>mmF mx z r|none=>none
def mmD(mx:Bool):List SV->Option SV
 | x::y::r=>match mm2 mx x y with|some z=>mmF mx z r|none=>none
 | _=>none
def Hh:List Nat->Option Nat
 | [t,t']=>match Nat.beq t t' with|true=>some t|false=>none
 | _=>none
def DZ{PP:Program}{C:Cx PP}(Γ:List (UO C))(op:ZD)(H:aY)(nm:Nat)(c:Call):Option DR:=
 match c.callee with
 | .value x=>match op [] x with
  | some sf=>match callee sf,YW op c.args.toList with
   | some (g,first,captured),some args=>match y5 Γ g with
    | some con=>match laid (first++args++captured) with
     | some al=>match con.eff with|some g=>g H nm al|none=>O4 con H nm al
     | none=>none
    | none=>none
   | _,_=>none
  | none=>none
 | .builtin .len=>match YW op c.args.toList with|some l=>od (PY C c.argTypes l)|none=>none
 | .builtin .max=>match YW op c.args.toList with|some l=>od (mmD true l)|none=>none
 | .builtin .min=>match YW op c.args.toList with|some l=>od (mmD false l)|none=>none
 | .builtin .append=>match YW op c.args.toList,Hh c.argTypes.toList with
  | some [x,y],some t=>match Kg C H nm t x y with|some r=>some r|none=>Ke C H nm t x y
  | _,_=>none
 | .builtin .copy=>match YW op c.args.toList,c.argTypes.toList with
  | some [x,y],[t,_]=>JB C H t x y
  | _,_=>none
 | _=>none
def NR(a b:Bool):Bool:=match a with|true=>b|false=>false
def AD{PP:Program}(C:Cx PP)(H:aY)(t:TypeId)(x v:SV):Option DR:=
 match look C.T t,iG v with
 | some ti,some l=>match Nat.beq l.length ti.sz,ya l with
  | true,true=>match x with
   | .p n off=>match wA H n with
    | some (cs,ty)=>match Nat.ble (off+l.length) cs.length with
     | true=>match laid (cs.take off++l++cs.drop (off+l.length)) with
      | some X'=>some ⟨none,.v undef,some (n,.lay X' ty),false⟩
      | none=>none
     | false=>none
    | none=>none
   | .gp m e sz i off=>match EV H m e sz,da l with
    | some (N,h,ty),true=>match laid ((h i).take off++l++(h i).drop (off+l.length)) with
     | some c=>match Nat.beq c.length sz,Nat.ble (off+l.length) sz with
      | true,true=>some ⟨some (∀j,j<N->eV c (h j)),.v undef,some (m,.lst e sz N (λj=>ZF (Nat.beq j i) c (h j)) ty),false⟩
      | _,_=>none
     | none=>none
    | _,_=>none
   | .kq m i sz j off=>match kids H m sz,da l with
    | some (e,esz,N,h,p,g,tk,ty),true=>match laid (((g i).2 j).take off++l++((g i).2 j).drop (off+l.length)) with
     | some c=>match Nat.beq c.length sz,Nat.ble (off+l.length) sz with
      | true,true=>some ⟨some (∀a,a<N->∀b,b<(g a).1->eV c ((g a).2 b)),.v undef,some (m,.nst e esz N h p sz (λa=>((g a).1,λb=>ZF (NR (Nat.beq a i) (Nat.beq b j)) c ((g a).2 b))) tk ty none),false⟩
      | _,_=>none
     | none=>none
    | _,_=>none
   | _=>none
  | _,_=>none
 | _,_=>none
def oV:mN->mN->Bool
 | .i k,.i k'=>lA k k'
 | .str,.str=>true
 | _,_=>false
theorem jF{k k':mN}(h:oV k k'=true):k=k':=by cases k<;>cases k'<;>first|rfl|exact Uo mN.i (fV h)|cases h
def mkK:TK->Option mN
 | .int k=>some (.i k)
 | .str=>some .str
 | _=>none
def SV.key?:SV->Option (mN×Int)
 | .il k n=>some (.i k,n)
 | .v (.int k n)=>some (.i k,n)
 | .v (.string q)=>some (.str,MH q)
 | _=>none
def Iu{PP:Program}(C:Cx PP)(t:Nat):Option (mN×TI):=
 match look C.T t with
 | none=>none
 | some ti=>match ti.k with
  | .mp k e=>match look C.T k,look C.T e with
   | some ki,some ei=>match mkK ki.k with|some kk=>some (kk,ei)|none=>none
   | _,_=>none
  | _=>none
def pb{PP:Program}(C:Cx PP)(nm t:Nat):Option DR:=
 match Iu C t with
 | some (kk,ei)=>some ⟨none,.m nm,some (nm,.mp kk (gY ei.k) (λ_=>false) (λ_=>ei.z)),true⟩
 | none=>none
def maps(H:aY)(n:Nat):Option (mN×Bool×(Int->Bool)×(Int->List SV)):=match look H n with|some (.mp k ag has g)=>some (k,ag,has,g)|_=>none
def AO(a b:Bool):Bool:=match a,b with|true,true=>true|false,false=>true|_,_=>false
def sw(ag:Bool)(v:SV):Option (List SV):=match ag,v with
 | true,.agg l=>some l
 | false,.agg _=>none
 | false,.tup _=>none
 | false,.v (.agg _)=>none
 | false,.v (.tuple _)=>none
 | false,x=>some [x]
 | _,_=>none
def wv{PP:Program}(C:Cx PP)(H:aY)(t:Nat)(x i v:SV):Option DR:=
 match Iu C t,x with
 | some (kk,ei),.m n=>match maps H n,i.key? with
  | some (k,ag,has,g),some (k',q)=>match oV k kk,oV k' kk,sw ag v with
   | true,true,some l=>match da l with
    | true=>some ⟨some (∀j,eV l (g j)),.v undef,some (n,.mp k ag (λj=>decide (j=q)||has j) (λj=>ZF (decide (j=q)) l (g j))),false⟩
    | false=>none
   | _,_,_=>none
  | _,_=>none
 | _,_=>none
def mapVal(ag:Bool)(l:List SV):Option SV:=match ag,l with
 | true,l=>some (.agg l)
 | false,[x]=>some x
 | _,_=>none
def wx{PP:Program}(C:Cx PP)(H:aY)(t:Nat)(x i:SV)(ok:Bool):Option DR:=
 match Iu C t,x with
 | some (kk,ei),.m n=>match maps H n,i.key? with
  | some (k,ag,has,g),some (k',q)=>match oV k kk,oV k' kk,AO ag (gY ei.k),mapVal ag (ZF (has q) (g q) ei.z) with
   | true,true,true,some v=>match ok with
    | true=>some ⟨some (eV (g q) ei.z),.tup [v,.v (.bool (has q))],none,false⟩
    | false=>some ⟨some (eV (g q) ei.z),v,none,false⟩
   | _,_,_,_=>none
  | _,_=>none
 | _,_=>none
def exL(c:Operand)(b:Bool):List (Nat×Bool):=match c with
 | .tmp t=>[(t,b)]
 | _=>[]
def Ip:List SV:=[.v (.int .i64 0),.v (.int .i64 0),.v (.int .i64 0),.v (.int .i64 0),.v (.int .i64 0),.v (.int .i64 0),.v (.int .i64 0),.v (.int .i64 0)]
def D{PP:Program}{C:Cx PP}(Γ:List (UO C))(fz:Bool)(op:ZD)(H:aY)(nm:Nat):Op->Option DR
 | .move x=>match op [] x with|some v=>dv v|none=>none
 | .assign x=>match op [] x with|some v=>dv v|none=>none
 | .pick c x y=>match op [] c,c with
  | some (.bl true),_=>match op (exL c true) x with|some v=>dv v|none=>none
  | some (.bl false),_=>match op (exL c false) y with|some v=>dv v|none=>none
  | some (.v (.bool b)),.tmp t=>match op [(t,true)] x,op [(t,false)] y with
   | some u,some v=>match HV b u v with|some z=>dv z|none=>none
   | _,_=>none
  | _,_=>none
 | .alloc t=>match look C.T t with|some ti=>some ⟨none,.p nm 0,some (nm,.lay ti.z t),true⟩|none=>none
 | .box t x=>match op [] x with
  | some v=>match iG v with
   | some l=>match ya l with|true=>some ⟨none,.p nm 0,some (nm,.lay l t),true⟩|false=>none
   | none=>none
  | none=>none
 | .build s parts=>match look C.T s,opP op parts.toList with
  | some ti,some ps=>match ti.k with
   | .struct fs=>match Dl C s ti.z ps,NT C fs with|some l,true=>dv (.agg l)|_,_=>none
   | .arr _ e=>match look C.T e with
    | some ei=>match sR ei.sz ti.z ps with|some l=>dv (.agg l)|none=>none
    | none=>none
   | _=>none
  | _,_=>none
 | .load t x=>match op [] x with|some v=>od (CW C H v t)|none=>none
 | .store t x y=>match op [] x,op [] y with|some u,some v=>AD C H t u v|_,_=>none
 | .fieldAddr s x k=>match op [] x,lS C s k with
  | some u,some (fo,fi)=>od (kQ u fo fi.sz)
  | _,_=>none
 | .field s x k=>match op [] x,lS C s k with
  | some (.agg l),some (fo,fi)=>match gY fi.k with
   | true=>match takeN fi.sz (l.drop fo) with|some m=>dv (.agg m)|none=>none
   | false=>match l[fo]? with|some c=>dv c|none=>none
  | _,_=>none
 | .binOp o t x y _=>match op [] x,op [] y with
  | some u,some v=>match J8 (Ru Γ) o u v with
   | some r=>some r
   | none=>match D5 C o t u v with
    | some r=>dv r
    | none=>match Kk C o t u v with
     | some r=>dv r
     | none=>od (Lz C o t u v)
  | _,_=>none
 | .unOp o _ x=>match op [] x with|some u=>unD o u|none=>none
 | .extract x k=>match op [] x with
  | some (.tup l)=>match l[k]? with|some v=>dv v|none=>none
  | _=>none
 | .nilCheck x=>match op [] x with
  | some (.p n off)=>dv (.p n off)
  | some (.rp x off)=>dv (.rp x off)
  | some (.gp m e sz i off)=>dv (.gp m e sz i off)
  | some (.kq m i sz j off)=>dv (.kq m i sz j off)
  | some (.v (.pointer none))=>Za False (.rp Ip 0)
  | _=>none
 | .makeFunc fn first captured=>match YW op first.toList,YW op captured.toList with
  | some x,some y=>dv (.f fn x y)
  | _,_=>none
 | .call c=>DZ Γ op H nm c
 | .convert src dst x=>match op [] x with|some v=>DG C src dst v|none=>none
 | .buildSlice t len parts=>match opP op parts.toList with|some ps=>(match fz,TW Γ with|false,false=>(match TS Γ with|true=>xc C nm t len ps|false=>BF C nm t len ps)|_,_=>rl C t len ps)|none=>none
 | .makeMap t none=>pb C nm t
 | .mapUpdate t x i v=>match op [] x,op [] i,op [] v with|some x,some i,some v=>wv C H t x i v|_,_,_=>none
 | .lookup t x i ok=>match op [] x,op [] i with|some x,some i=>wx C H t x i ok|_,_=>none
 | .makeSlice t x y=>match op [] x,op [] y with|some u,some v=>yu C nm t u v|_,_=>none
 | .indexAddr t x i=>match op [] x,op [] i with|some u,some v=>Jm C t u v|_,_=>none
 | .index t x i=>match op [] x,op [] i with|some u,some v=>(match je v with|true=>od (sF C t u v)|false=>match Bo C t u v with|some r=>some r|none=>od (sF C t u v))|_,_=>none
 | .slice t x low high max=>match op [] x,opO op low,opO op high,opO op max with
  | some u,some a,some b,some c=>AN C t u a b c
  | _,_,_,_=>none
 | _=>none
end Go.Proofs.YtgigkennhdolpaaGreatDoor
