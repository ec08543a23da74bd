/- step.least, step.mover's blocked.. -/
import Derived.Test.YtgigkennhdolpaaGreatDoorM32
namespace Go.Proofs.YtgigkennhdolpaaGreatDoor
open Go.RowKit
set_option maxRecDepth 8000
set_option maxHeartbeats 2000000
def Zv(x:SV):Body:=match x with|.rp l _=>Body.of (.agg l)|_=>Xk
def cpI(x:SV):Int:=match x with|.rp (y::_) _=>y.iv|_=>0
def X0(x:SV)(k:Nat):SV:=match x with|.f _ _ l=>VP (tS k l)|_=>.e
def cpC(x:SV):SV:=match x with|.rp (y::_) _=>y|_=>.e
structure UY.Ax (m:UY):Prop where
 ax:m.axis=0∨m.axis=1
 sg:m.sign=1∨m.sign = -1
 x1 : -1048576<=m.bPosX
 x2:m.bPosX<=1048576
 y1 : -1048576<=m.bPosY
 y2:m.bPosY<=1048576
theorem UY.Ax.at{m:UY}(h:m.Ax){n:Int}(h1:0<=n)(h2:n<=100000):UU (m.sign*n)∧UU (m.bPosX+m.sign*n)∧UU (m.bPosY+m.sign*n):=by have:=h.x1;have:=h.x2;have:=h.y1;have:=h.y2;unfold UU;rcases h.sg with e|e<;>rw[e]<;>omega
theorem UY.Ax.far{m:UY}(h:m.Ax){n:Int}(h1:0<=n)(h2:n<=100000){o:Body}(ho:de o):Av (shB m n) o:=by have:=h.x1;have:=h.x2;have:=h.y1;have:=h.y2;have:=ho.x1;have:=ho.x2;have:=ho.y1;have:=ho.y2;unfold shB;rcases h.ax with e|e<;>rw[e]<;>rcases h.sg with e|e<;>rw[e]<;>constructor<;>(simp only[decide_true,decide_false,show decide ((1:Int)=0)=false from rfl];omega)
theorem Cy(m:UY)(hm:m.Ax):∀a,aA ((λa=>[0<=a.1∧a.1<=100000,a.2.1=.rp m.cells 0,∃o q,de o∧a.2.2.1=.rp o.cells 0∧a.2.2.2=.rp [.v (.int .i64 q)] 0]) a)->aH (C:=cx) [Em,zU] [] 0 ai Tryz.f189 ((ug (Vm .i64) Vy Vy Vy).enc a) λv H _=>af ((λa=>.v (.bool (m.ja (Zv a.2.2.1) (cpI a.2.2.2) a.1))) a) H v:=by intro⟨i,x,y,z⟩ ⟨hi,hx,o,q,ho,hy,hz⟩;replace hi:0<=i∧i<=100000:=hi;replace hx:x=.rp m.cells 0:=hx;replace hy:y=.rp o.cells 0:=hy;replace hz:z=.rp [.v (.int .i64 q)] 0:=hz;subst hx hy hz;refine Ai ⟨λ_ _=>trivial,λ_ _=>trivial,hm.ax,hm.at hi.1 hi.2⟩ ?_;refine Ai (hm.far hi.1 hi.2 ho) ?_;exact rfl
noncomputable def KA(m:UY)(hm:m.Ax):UW cx:=ae 189 Tryz.call189 (ug (Vm .i64) Vy Vy Vy) (λa=>[0<=a.1∧a.1<=100000,a.2.1=.rp m.cells 0,∃o q,de o∧a.2.2.1=.rp o.cells 0∧a.2.2.2=.rp [.v (.int .i64 q)] 0]) (λa=>.v (.bool (m.ja (Zv a.2.2.1) (cpI a.2.2.2) a.1))) (λ_=>ai) [] (λ_=>rfl) follows Tryz.func189 (by kernel_rfl) (Cy m hm)
theorem Cv(m:UY)(hm:m.Ax):∀a,aA ((λa=>[0<=a.1∧a.1<=100000,a.2.1=.rp m.cells 0,∃o:Body,a.2.2=.rp o.cells 0]) a)->aH (C:=cx) [Em,jH] [] 0 ai Tryz.f237 ((eU (Vm .i64) Vy Vy).enc a) λv H _=>af ((λa=>.v (.bool (m.dD (Zv a.2.2) a.1))) a) H v:=by intro⟨i,x,y⟩ ⟨hi,hx,o,hy⟩;replace hi:0<=i∧i<=100000:=hi;replace hx:x=.rp m.cells 0:=hx;replace hy:y=.rp o.cells 0:=hy;subst hx hy;refine Ai ⟨λ_ _=>trivial,λ_ _=>trivial,hm.ax,hm.at hi.1 hi.2⟩ ?_;exact rfl
noncomputable def Kz(m:UY)(hm:m.Ax):UW cx:=ae 237 Tryz.call237 (eU (Vm .i64) Vy Vy) (λa=>[0<=a.1∧a.1<=100000,a.2.1=.rp m.cells 0,∃o:Body,a.2.2=.rp o.cells 0]) (λa=>.v (.bool (m.dD (Zv a.2.2) a.1))) (λ_=>ai) [] (λ_=>rfl) follows Tryz.func237 (by kernel_rfl) (Cv m hm)
theorem Cp(m:UY)(hm:m.Ax):∀a,aA ((λa=>[0<=a.1∧a.1<=90000,∃(o:Body) (q:Int),de o∧a.2=.rp [(.f (.func 189) [] [.rp m.cells 0,.rp o.cells 0,.rp [.v (.int .i64 q)] 0])] 0]) a)->aH (C:=cx) [KA m hm] [] 0 ai Tryz.f234 ((aD (Vm .i64) Vy).enc a) λv H _=>af ((λa=>.v (.bool (m.ja (Zv (X0 (cpC a.2) 1)) (cpI (X0 (cpC a.2) 2)) (a.1+1)))) a) H v:=by intro⟨i,x⟩ ⟨hi,hx⟩;replace hi:0<=i∧i<=90000:=hi;obtain⟨o,q,ho,hx⟩:∃(o:Body) (q:Int),de o∧x=.rp [(.f (.func 189) [] [.rp m.cells 0,.rp o.cells 0,.rp [.v (.int .i64 q)] 0])] 0:=hx;subst hx;refine Ai (show UU (i+1) by unfold UU;omega) ?_;refine Ai ⟨⟨(show 0<=i+1 by omega),(show i+1<=100000 by omega)⟩,rfl,o,q,ho,rfl,rfl⟩ ?_;exact rfl
noncomputable def Kt(m:UY)(hm:m.Ax):UW cx:=ae 234 Tryz.call234 (aD (Vm .i64) Vy) (λa=>[0<=a.1∧a.1<=90000,∃(o:Body) (q:Int),de o∧a.2=.rp [(.f (.func 189) [] [.rp m.cells 0,.rp o.cells 0,.rp [.v (.int .i64 q)] 0])] 0]) (λa=>.v (.bool (m.ja (Zv (X0 (cpC a.2) 1)) (cpI (X0 (cpC a.2) 2)) (a.1+1)))) (λ_=>ai) [] (λ_=>rfl) follows Tryz.func234 (by kernel_rfl) (Cp m hm)
def TR(m:UY)(o:Body)(q:Int)(n:Nat):Cut:=⟨Nat×Nat,λx=>x.1<=x.2∧x.2<=n∧jo (λi=>m.ja o q ((i:Int)+1)) (x.2-x.1) x.1 x.2=qI (λi=>m.ja o q ((i:Int)+1)) n,
 λx=>⟨[sl 1 (.f (.func 234) [] [.rp [(.f (.func 189) [] [.rp m.cells 0,.rp o.cells 0,.rp [.v (.int .i64 q)] 0])] 0]),sl 5 (i64 x.1),sl 6 (i64 x.2)],[],0,0,[],[]⟩,λx=>x.2-x.1⟩
theorem Ca(m:UY)(hm:m.Ax):∀a,aA ((λa=>[0<=a.1∧a.1<=90000,∃(o:Body) (q:Int),de o∧a.2=.f (.func 234) [] [.rp [(.f (.func 189) [] [.rp m.cells 0,.rp o.cells 0,.rp [.v (.int .i64 q)] 0])] 0]]) a)->aH (C:=cx) [Kt m hm] [] 0 ⟨[],[],[2],0⟩ Tryz.f233 ((aD (Vm .i64) Vy).enc a) λv H _=>af ((λa=>.v (.int .i64 (qI (λi=>m.ja (Zv (X0 (cpC (X0 a.2 0)) 1)) (cpI (X0 (cpC (X0 a.2 0)) 2)) ((i:Int)+1)) a.1.toNat:Nat))) a) H v:=by
 intro⟨n,x⟩ ⟨hn,hx⟩;replace hn:0<=n∧n<=90000:=hn;obtain⟨n,rfl⟩:∃k:Nat,n=(k:Int):=⟨n.toNat,by omega⟩
 obtain⟨o,q,ho,hx⟩:∃(o:Body) (q:Int),de o∧x=.f (.func 234) [] [.rp [(.f (.func 189) [] [.rp m.cells 0,.rp o.cells 0,.rp [.v (.int .i64 q)] 0])] 0]:=hx;subst hx;refine T' (TR m o q n) ?_;refine Ai ?_ ?_
 ·refine⟨((0:Nat),n),[],[],trivial,⟨Up _,I' _,rfl⟩,?_⟩;repeat' (first|refine Ai ?_ ?_|intro _|exact rfl)
 refine fun(x:Nat×Nat) (hx:x.1<=x.2∧x.2<=n∧jo (λi=>m.ja o q ((i:Int)+1)) (x.2-x.1) x.1 x.2=qI (λi=>m.ja o q ((i:Int)+1)) n)=>?_;obtain⟨i,j⟩:=x;obtain⟨x1,x2,x3⟩:i<=j∧j<=n∧jo (λi=>m.ja o q ((i:Int)+1)) (j-i) i j=qI (λi=>m.ja o q ((i:Int)+1)) n:=hx;refine Ai (λhb=>?_) (λhb=>?_)
 ·have hb:(i:Int)<j:=Od hb;have XS:i<j:=(by omega);have U7:=vu (p:=λi=>m.ja o q ((i:Int)+1)) XS;refine Ai (by unfold U1;omega:U1 ((i:Int)+j)) ?_;have hh:=half i j (by omega);obtain⟨h,hd⟩:∃h,h=(i+j)/2:=⟨_,rfl⟩
  rw[<-hd] at hh U7;refine Ai (show (0<=IntKind.i64.wrap ((IntKind.u64.wrap ((i:Int)+j)).fdiv (2^min (Int.toNat 1) IntKind.u64.bits))∧IntKind.i64.wrap ((IntKind.u64.wrap ((i:Int)+j)).fdiv (2^min (Int.toNat 1) IntKind.u64.bits))<=90000)∧_ by rw[hh];exact⟨⟨by omega,by omega⟩,o,q,ho,rfl⟩) ?_;refine Ai (λhc=>?_) (λhc=>?_)
  ·have hc:(!m.ja o q (IntKind.i64.wrap ((IntKind.u64.wrap ((i:Int)+j)).fdiv (2^min (Int.toNat 1) IntKind.u64.bits))+1))=true:=hc;rw[hh] at hc;have hc:m.ja o q ((h:Int)+1)=false:=(by simpa using hc);simp only[hc] at U7;have h64:U1 ((h:Int)+1):=(by unfold U1;omega);refine Ai (show U1 (_+1) by rw[hh];exact h64) ?_;refine⟨(h+1,j),[],[],(by show j-(h+1)<j-i;omega),⟨(by show h+1<=j;omega),x2,U7.symm.trans x3⟩,?_⟩;repeat' (first|refine Ai ?_ ?_|intro _|exact rfl)
   all_goals (show ((h+1:Nat):Int)=_+1;rw[hh];rfl)
  have hc:(!m.ja o q (IntKind.i64.wrap ((IntKind.u64.wrap ((i:Int)+j)).fdiv (2^min (Int.toNat 1) IntKind.u64.bits))+1))=false:=hc;rw[hh] at hc;have hc:m.ja o q ((h:Int)+1)=true:=(by simpa using hc);simp only[hc] at U7;refine⟨(i,h),[],[],(by show h-i<j-i;omega),⟨(by show i<=h;omega),(by show h<=n;omega),U7.symm.trans x3⟩,?_⟩;repeat' (first|refine Ai ?_ ?_|intro _|exact rfl)
  all_goals exact hh.symm
 have hb:¬(i:Int)<j:=Uy hb;rw[Es (by omega)] at x3;exact(Uv (λk:Nat=>(k:Int)) x3).symm
noncomputable def Kh(m:UY)(hm:m.Ax):UW cx:=ae 233 Tryz.call233 (aD (Vm .i64) Vy) (λa=>[0<=a.1∧a.1<=90000,∃(o:Body) (q:Int),de o∧a.2=.f (.func 234) [] [.rp [(.f (.func 189) [] [.rp m.cells 0,.rp o.cells 0,.rp [.v (.int .i64 q)] 0])] 0]]) (λa=>.v (.int .i64 (qI (λi=>m.ja (Zv (X0 (cpC (X0 a.2 0)) 1)) (cpI (X0 (cpC (X0 a.2 0)) 2)) ((i:Int)+1)) a.1.toNat:Nat))) (λ_=>⟨[],[],[2],0⟩) [] (λ_=>rfl) follows Tryz.func233 (by kernel_rfl) (Ca m hm)
theorem As(m:UY)(hm:m.Ax):∀a,aA ((λa=>[0<=a.1∧a.1<=90000,∃(o:Body) (q:Int),de o∧a.2=(.f (.func 189) [] [.rp m.cells 0,.rp o.cells 0,.rp [.v (.int .i64 q)] 0])]) a)->aH (C:=cx) [Kh m hm] [] 0 ai Tryz.f188 ((aD (Vm .i64) Vy).enc a) λv H _=>af ((λa=>.v (.int .i64 (eX (m.ja (Zv (X0 a.2 1)) (cpI (X0 a.2 2))) a.1))) a) H v:=by intro⟨n,x⟩ ⟨hn,hx⟩;replace hn:0<=n∧n<=90000:=hn;obtain⟨o,q,ho,hx⟩:∃(o:Body) (q:Int),de o∧x=(.f (.func 189) [] [.rp m.cells 0,.rp o.cells 0,.rp [.v (.int .i64 q)] 0]):=hx;subst hx;refine Ai ⟨hn,o,q,ho,rfl⟩ ?_;have hb:=iW (p:=m.ja o q) hn.1;refine Ai (show UU (eX (m.ja o q) n) by unfold UU;omega) ?_;exact rfl
noncomputable def Ga(m:UY)(hm:m.Ax):UW cx:=ae 188 Tryz.call188 (aD (Vm .i64) Vy) (λa=>[0<=a.1∧a.1<=90000,∃(o:Body) (q:Int),de o∧a.2=(.f (.func 189) [] [.rp m.cells 0,.rp o.cells 0,.rp [.v (.int .i64 q)] 0])]) (λa=>.v (.int .i64 (eX (m.ja (Zv (X0 a.2 1)) (cpI (X0 a.2 2))) a.1))) (λ_=>ai) [] (λ_=>rfl) follows Tryz.func188 (by kernel_rfl) (As m hm)
theorem Co(m:UY)(hm:m.Ax):∀a,aA ((λa=>[0<=a.1∧a.1<=90000,∃o:Body,a.2=.rp [(.f (.func 237) [] [.rp m.cells 0,.rp o.cells 0])] 0]) a)->aH (C:=cx) [Kz m hm] [] 0 ai Tryz.f234 ((aD (Vm .i64) Vy).enc a) λv H _=>af ((λa=>.v (.bool (m.dD (Zv (X0 (cpC a.2) 1)) (a.1+1)))) a) H v:=by intro⟨i,x⟩ ⟨hi,hx⟩;replace hi:0<=i∧i<=90000:=hi;obtain⟨o,hx⟩:∃o:Body,x=.rp [(.f (.func 237) [] [.rp m.cells 0,.rp o.cells 0])] 0:=hx;subst hx;refine Ai (show UU (i+1) by unfold UU;omega) ?_;refine Ai ⟨⟨(show 0<=i+1 by omega),(show i+1<=100000 by omega)⟩,rfl,o,rfl⟩ ?_;exact rfl
noncomputable def Ks(m:UY)(hm:m.Ax):UW cx:=ae 234 Tryz.call234 (aD (Vm .i64) Vy) (λa=>[0<=a.1∧a.1<=90000,∃o:Body,a.2=.rp [(.f (.func 237) [] [.rp m.cells 0,.rp o.cells 0])] 0]) (λa=>.v (.bool (m.dD (Zv (X0 (cpC a.2) 1)) (a.1+1)))) (λ_=>ai) [] (λ_=>rfl) follows Tryz.func234 (by kernel_rfl) (Co m hm)
def TQ(m:UY)(o:Body)(n:Nat):Cut:=⟨Nat×Nat,λx=>x.1<=x.2∧x.2<=n∧jo (λi=>m.dD o ((i:Int)+1)) (x.2-x.1) x.1 x.2=qI (λi=>m.dD o ((i:Int)+1)) n,
 λx=>⟨[sl 1 (.f (.func 234) [] [.rp [(.f (.func 237) [] [.rp m.cells 0,.rp o.cells 0])] 0]),sl 5 (i64 x.1),sl 6 (i64 x.2)],[],0,0,[],[]⟩,λx=>x.2-x.1⟩
theorem B9(m:UY)(hm:m.Ax):∀a,aA ((λa=>[0<=a.1∧a.1<=90000,∃o:Body,a.2=.f (.func 234) [] [.rp [(.f (.func 237) [] [.rp m.cells 0,.rp o.cells 0])] 0]]) a)->aH (C:=cx) [Ks m hm] [] 0 ⟨[],[],[2],0⟩ Tryz.f233 ((aD (Vm .i64) Vy).enc a) λv H _=>af ((λa=>.v (.int .i64 (qI (λi=>m.dD (Zv (X0 (cpC (X0 a.2 0)) 1)) ((i:Int)+1)) a.1.toNat:Nat))) a) H v:=by
 intro⟨n,x⟩ ⟨hn,hx⟩;replace hn:0<=n∧n<=90000:=hn;obtain⟨n,rfl⟩:∃k:Nat,n=(k:Int):=⟨n.toNat,by omega⟩
 obtain⟨o,hx⟩:∃o:Body,x=.f (.func 234) [] [.rp [(.f (.func 237) [] [.rp m.cells 0,.rp o.cells 0])] 0]:=hx;subst hx;refine T' (TQ m o n) ?_;refine Ai ?_ ?_
 ·refine⟨((0:Nat),n),[],[],trivial,⟨Up _,I' _,rfl⟩,?_⟩;repeat' (first|refine Ai ?_ ?_|intro _|exact rfl)
 refine fun(x:Nat×Nat) (hx:x.1<=x.2∧x.2<=n∧jo (λi=>m.dD o ((i:Int)+1)) (x.2-x.1) x.1 x.2=qI (λi=>m.dD o ((i:Int)+1)) n)=>?_;obtain⟨i,j⟩:=x;obtain⟨x1,x2,x3⟩:i<=j∧j<=n∧jo (λi=>m.dD o ((i:Int)+1)) (j-i) i j=qI (λi=>m.dD o ((i:Int)+1)) n:=hx;refine Ai (λhb=>?_) (λhb=>?_)
 ·have hb:(i:Int)<j:=Od hb;have XS:i<j:=(by omega);have U7:=vu (p:=λi=>m.dD o ((i:Int)+1)) XS;refine Ai (by unfold U1;omega:U1 ((i:Int)+j)) ?_;have hh:=half i j (by omega);obtain⟨h,hd⟩:∃h,h=(i+j)/2:=⟨_,rfl⟩
  rw[<-hd] at hh U7;refine Ai (show (0<=IntKind.i64.wrap ((IntKind.u64.wrap ((i:Int)+j)).fdiv (2^min (Int.toNat 1) IntKind.u64.bits))∧IntKind.i64.wrap ((IntKind.u64.wrap ((i:Int)+j)).fdiv (2^min (Int.toNat 1) IntKind.u64.bits))<=90000)∧_ by rw[hh];exact⟨⟨by omega,by omega⟩,o,rfl⟩) ?_;refine Ai (λhc=>?_) (λhc=>?_)
  ·have hc:(!m.dD o (IntKind.i64.wrap ((IntKind.u64.wrap ((i:Int)+j)).fdiv (2^min (Int.toNat 1) IntKind.u64.bits))+1))=true:=hc;rw[hh] at hc;have hc:m.dD o ((h:Int)+1)=false:=(by simpa using hc);simp only[hc] at U7;have h64:U1 ((h:Int)+1):=(by unfold U1;omega);refine Ai (show U1 (_+1) by rw[hh];exact h64) ?_;refine⟨(h+1,j),[],[],(by show j-(h+1)<j-i;omega),⟨(by show h+1<=j;omega),x2,U7.symm.trans x3⟩,?_⟩;repeat' (first|refine Ai ?_ ?_|intro _|exact rfl)
   all_goals (show ((h+1:Nat):Int)=_+1;rw[hh];rfl)
  have hc:(!m.dD o (IntKind.i64.wrap ((IntKind.u64.wrap ((i:Int)+j)).fdiv (2^min (Int.toNat 1) IntKind.u64.bits))+1))=false:=hc;rw[hh] at hc;have hc:m.dD o ((h:Int)+1)=true:=(by simpa using hc);simp only[hc] at U7;refine⟨(i,h),[],[],(by show h-i<j-i;omega),⟨(by show i<=h;omega),(by show h<=n;omega),U7.symm.trans x3⟩,?_⟩;repeat' (first|refine Ai ?_ ?_|intro _|exact rfl)
  all_goals exact hh.symm
 have hb:¬(i:Int)<j:=Uy hb;rw[Es (by omega)] at x3;exact(Uv (λk:Nat=>(k:Int)) x3).symm
noncomputable def Kg(m:UY)(hm:m.Ax):UW cx:=ae 233 Tryz.call233 (aD (Vm .i64) Vy) (λa=>[0<=a.1∧a.1<=90000,∃o:Body,a.2=.f (.func 234) [] [.rp [(.f (.func 237) [] [.rp m.cells 0,.rp o.cells 0])] 0]]) (λa=>.v (.int .i64 (qI (λi=>m.dD (Zv (X0 (cpC (X0 a.2 0)) 1)) ((i:Int)+1)) a.1.toNat:Nat))) (λ_=>⟨[],[],[2],0⟩) [] (λ_=>rfl) follows Tryz.func233 (by kernel_rfl) (B9 m hm)
theorem Ar(m:UY)(hm:m.Ax):∀a,aA ((λa=>[0<=a.1∧a.1<=90000,∃o:Body,a.2=(.f (.func 237) [] [.rp m.cells 0,.rp o.cells 0])]) a)->aH (C:=cx) [Kg m hm] [] 0 ai Tryz.f188 ((aD (Vm .i64) Vy).enc a) λv H _=>af ((λa=>.v (.int .i64 (eX (m.dD (Zv (X0 a.2 1))) a.1))) a) H v:=by intro⟨n,x⟩ ⟨hn,hx⟩;replace hn:0<=n∧n<=90000:=hn;obtain⟨o,hx⟩:∃o:Body,x=(.f (.func 237) [] [.rp m.cells 0,.rp o.cells 0]):=hx;subst hx;refine Ai ⟨hn,o,rfl⟩ ?_;have hb:=iW (p:=m.dD o) hn.1;refine Ai (show UU (eX (m.dD o) n) by unfold UU;omega) ?_;exact rfl
noncomputable def F0(m:UY)(hm:m.Ax):UW cx:=ae 188 Tryz.call188 (aD (Vm .i64) Vy) (λa=>[0<=a.1∧a.1<=90000,∃o:Body,a.2=(.f (.func 237) [] [.rp m.cells 0,.rp o.cells 0])]) (λa=>.v (.int .i64 (eX (m.dD (Zv (X0 a.2 1))) a.1))) (λ_=>ai) [] (λ_=>rfl) follows Tryz.func188 (by kernel_rfl) (Ar m hm)
theorem UY.Ax.diff{m:UY}(h:m.Ax){o:Body}(ho:de o):(-2097152<=o.posX-m.bPosX∧o.posX-m.bPosX<=2097152)∧-2097152<=o.posY-m.bPosY∧o.posY-m.bPosY<=2097152:=by have:=h.x1;have:=h.x2;have:=h.y1;have:=h.y2;have:=ho.x1;have:=ho.x2;have:=ho.y1;have:=ho.y2;omega
theorem UY.Ax.Sx{m:UY}(h:m.Ax){o:Body}(ho:de o){a:Nat}(ha:a=0∨a=1) : -2097152<=m.m8 a o∧m.m8 a o<=2097152:=by have:=h.diff ho;rcases ha with rfl|rfl;show -2097152<=m.sign*(o.posX-m.bPosX)∧m.sign*(o.posX-m.bPosX)<=2097152;rcases h.sg with e|e<;>rw[e]<;>omega;show -2097152<=m.sign*(o.posY-m.bPosY)∧m.sign*(o.posY-m.bPosY)<=2097152;rcases h.sg with e|e<;>rw[e]<;>omega
theorem Lx(m:UY)(hm:m.Ax):∀a,aA ((λa=>[a.1=m,de a.2.1,0<=a.2.2∧a.2.2<=8192]) a)->aH (C:=cx) [dY,F0 m hm] [] 0 ai Tryz.f192 ((eU uN bL (Vm .i64)).enc a) λv H _=>af ((λa=>.v (.int .i64 (m.eY m.axis.toNat a.2.1 a.2.2))) a) H v:=by
 intro⟨m',o,most⟩ ⟨e,ho,h0,h1⟩;replace e:m'=m:=e;subst e;replace ho:de o:=ho;replace h0:0<=most:=h0;replace h1:most<=8192:=h1;obtain⟨b,r,gx,gy,i,px,py,vx,vy,w,h,rd,fx,ax,s⟩:=m';have hx:ax=0∨ax=1:=hm.ax;rcases hx with rfl|rfl
 ·skip
  have hN:(UY.mk b r gx gy i px py vx vy w h rd fx 0 s).m8 0 o=s*(o.posX-px):=rfl;have bd:=hm.Sx ho (a:=0) (.inl rfl);rw[hN] at bd;obtain⟨bd1,bd2⟩:=bd;refine Ai (show UU (o.posX-px) by have:=hm.diff ho;unfold UU;dsimp only at this;omega) ?_;refine Ai (show UU (s*(o.posX-px)) by unfold UU;omega) ?_;refine Ai (λhc=>?_) (λhc=>?_);have hc:decide (s*(o.posX-px)<=0)=true:=hc;refine Ai (show UU (most+1) by unfold UU;omega) ?_;show (UY.mk b r gx gy i px py vx vy w h rd fx 0 s).eY 0 o most=most+1;unfold UY.eY;rw[hN,hc];have hc:decide (s*(o.posX-px)<=0)=false:=hc;have hc':=Uy hc;refine Ai ⟨⟨(show 0<=min (s*(o.posX-px)) most by omega),(show min (s*(o.posX-px)) most<=90000 by omega)⟩,o,rfl⟩ ?_;have hl:=iW (p:=(UY.mk b r gx gy i px py vx vy w h rd fx 0 s).dD o) (n:=min (s*(o.posX-px)) most) (by omega);refine Ai (λhd=>?_) (λhd=>?_);have hd:decide (eX ((UY.mk b r gx gy i px py vx vy w h rd fx 0 s).dD o) (min (s*(o.posX-px)) most)<=min (s*(o.posX-px)) most)=true:=hd;show (UY.mk b r gx gy i px py vx vy w h rd fx 0 s).eY 0 o most=eX ((UY.mk b r gx gy i px py vx vy w h rd fx 0 s).dD o) (min (s*(o.posX-px)) most);unfold UY.eY;rw[hN,hc];simp only;rw[hd];have hd:decide (eX ((UY.mk b r gx gy i px py vx vy w h rd fx 0 s).dD o) (min (s*(o.posX-px)) most)<=min (s*(o.posX-px)) most)=false:=hd;refine Ai (show UU (most+1) by unfold UU;omega) ?_;show (UY.mk b r gx gy i px py vx vy w h rd fx 0 s).eY 0 o most=most+1;unfold UY.eY;rw[hN,hc];simp only;rw[hd]
 ·skip
  have hN:(UY.mk b r gx gy i px py vx vy w h rd fx 1 s).m8 1 o=s*(o.posY-py):=rfl;have bd:=hm.Sx ho (a:=1) (.inr rfl);rw[hN] at bd;obtain⟨bd1,bd2⟩:=bd;refine Ai (show UU (o.posY-py) by have:=hm.diff ho;unfold UU;dsimp only at this;omega) ?_;refine Ai (show UU (s*(o.posY-py)) by unfold UU;omega) ?_;refine Ai (λhc=>?_) (λhc=>?_);have hc:decide (s*(o.posY-py)<=0)=true:=hc;refine Ai (show UU (most+1) by unfold UU;omega) ?_;show (UY.mk b r gx gy i px py vx vy w h rd fx 1 s).eY 1 o most=most+1;unfold UY.eY;rw[hN,hc];have hc:decide (s*(o.posY-py)<=0)=false:=hc;have hc':=Uy hc;refine Ai ⟨⟨(show 0<=min (s*(o.posY-py)) most by omega),(show min (s*(o.posY-py)) most<=90000 by omega)⟩,o,rfl⟩ ?_;have hl:=iW (p:=(UY.mk b r gx gy i px py vx vy w h rd fx 1 s).dD o) (n:=min (s*(o.posY-py)) most) (by omega);refine Ai (λhd=>?_) (λhd=>?_);have hd:decide (eX ((UY.mk b r gx gy i px py vx vy w h rd fx 1 s).dD o) (min (s*(o.posY-py)) most)<=min (s*(o.posY-py)) most)=true:=hd;show (UY.mk b r gx gy i px py vx vy w h rd fx 1 s).eY 1 o most=eX ((UY.mk b r gx gy i px py vx vy w h rd fx 1 s).dD o) (min (s*(o.posY-py)) most);unfold UY.eY;rw[hN,hc];simp only;rw[hd];have hd:decide (eX ((UY.mk b r gx gy i px py vx vy w h rd fx 1 s).dD o) (min (s*(o.posY-py)) most)<=min (s*(o.posY-py)) most)=false:=hd;refine Ai (show UU (most+1) by unfold UU;omega) ?_;show (UY.mk b r gx gy i px py vx vy w h rd fx 1 s).eY 1 o most=most+1;unfold UY.eY;rw[hN,hc];simp only;rw[hd]
noncomputable def Q6(m:UY)(hm:m.Ax):UW cx:=ae 192 Tryz.call192 (eU uN bL (Vm .i64)) (λa=>[a.1=m,de a.2.1,0<=a.2.2∧a.2.2<=8192]) (λa=>.v (.int .i64 (m.eY m.axis.toNat a.2.1 a.2.2))) (λ_=>ai) [] (λ_=>rfl) follows Tryz.func192 (by kernel_rfl) (Lx m hm)
end Go.Proofs.YtgigkennhdolpaaGreatDoor
namespace Go.Proofs.YtgigkennhdolpaaGreatDoor
open Go.Conc Go.RowKit
set_option maxHeartbeats 2000000
structure UY.Zw (m:UY) (a:Nat) (most:Int):Prop where
 ax:m.axis=a
 ha:a=0∨a=1
 A:m.Ax
 m0:0<=most
 m1:most<=8192
 en:m.OkE
 ps:∀i,i<m.sBodies.n->de (m.sBodies.e i)
theorem UY.Zw.wall{m:UY}{a:Nat}{most:Int}(h:m.Zw a most):0<=jS m a∧jS m a<=2097152:=by have:=h.A.x1;have:=h.A.x2;have:=h.A.y1;have:=h.A.y2;unfold jS;rcases h.ha with e|e<;>subst e;show 0<=1048576-m.sign*m.bPosX∧1048576-m.sign*m.bPosX<=2097152;rcases h.A.sg with e|e<;>rw[e]<;>omega;show 0<=1048576-m.sign*m.bPosY∧1048576-m.sign*m.bPosY<=2097152;rcases h.A.sg with e|e<;>rw[e]<;>omega
theorem JV{m:UY}{a:Nat}{most:Int}(h:m.Zw a most){k:Nat}(hk:k<(du m m.sRopes.n).length):de ((du m m.sRopes.n).getD k Z').1:=by
 have hm:(du m m.sRopes.n).getD k Z'∈du m m.sRopes.n:=by rw[List.getD_eq_getElem?_getD,UL hk];exact List.getElem_mem hk
 obtain⟨i,h1,h2,h3⟩:=(mH (f:=λi=>(m.uu i,m.FM i)) (g:=m.tied) _).1 hm;rw[h2];exact h.ps _ (h.en.ix i h1 h3)
theorem Hv{m:UY}{a:Nat}{most:Int}(h:m.Zw a most){k:Nat}(hk:k<(ca m m.sBodies.n).length):de ((ca m m.sBodies.n).getD k Xk):=by
 have hm:(ca m m.sBodies.n).getD k Xk∈ca m m.sBodies.n:=by rw[List.getD_eq_getElem?_getD,UL hk];exact List.getElem_mem hk
 obtain⟨i,h1,h2,-⟩:=(mH (f:=m.sBodies.e) (g:=m.ZO) _).1 hm;rw[h2];exact h.ps _ h1
theorem Ma:rfP yb=[31,32].toArray:=by kernel_rfl
theorem Mb:rfP yc=[40].toArray:=by kernel_rfl
def FB:List (Nat×Slot):=[sl 2 (.p 0 0),sl 3 (.p 1 0),sl 7 (.p 2 0),sl 8 (.p 3 0)]
def QU(m:UY)(a:Nat)(most:Int):Cut:=⟨Unit,λ_=>True,λ_=>⟨sl 30 (.f (.func 230) [] [.rp m.cells 0])::FB,[(0,.lay m.cells 216),(1,.lay [i64 most] 3),(2,.lay [i64 (g9 m a most)] 3),(3,.lay [.il .i64 (-1)] 3)],5,0,[],[]⟩,λ_=>0⟩
noncomputable def gR(m:UY)(hm:m.Ax):List (UW cx):=[dY,Ga m hm,Q6 m hm]
def rH:X1:=⟨[11],[],[],1⟩
set_option maxRecDepth 100000 in
theorem ID(m:UY)(most:Int)(h:m.Zw 0 most):ev (C:=cx) (gR m h.A) 68 0 (gO (C:=cx) (gR m h.A) Xf 2) (dT Xf) rH E6 ⟨bB 0 [m.sv,i64 most],[],0,0,[],[]⟩ (λx st=>x=.normal∧(QU m 0 most).at_ 0 st λ_=>True):=by obtain⟨b,r,gx,gy,i,px,py,vx,vy,w,hh,rd,fx,ax,s⟩:=m;have h1:=h.ax;have h2:=h.A.sg;have h3:=h.A.x1;have h4:=h.A.x2;have h5:=h.m0;have h6:=h.m1;replace h1:ax=0:=h1;replace h2:s=1∨s = -1:=h2;replace h3 : -1048576<=px:=h3;replace h4:px<=1048576:=h4;subst h1;refine Ai (show UU (s*px) by unfold UU;rcases h2 with rfl|rfl<;>omega) ?_;refine Ai (show UU (1048576-s*px) by unfold UU;rcases h2 with rfl|rfl<;>omega) ?_;refine Ai ?_ ?_;show UU (min most (1048576-s*px)+1);unfold UU;rcases h2 with rfl|rfl<;>omega;refine⟨rfl,(),[],[.freeze 4],trivial,trivial,?_⟩;repeat' (first|refine Ai ?_ ?_|intro _|exact rfl)
set_option maxRecDepth 100000 in
theorem IC(m:UY)(most:Int)(h:m.Zw 1 most):ev (C:=cx) (gR m h.A) 68 0 (gO (C:=cx) (gR m h.A) Xf 2) (dT Xf) rH E6 ⟨bB 0 [m.sv,i64 most],[],0,0,[],[]⟩ (λx st=>x=.normal∧(QU m 1 most).at_ 0 st λ_=>True):=by obtain⟨b,r,gx,gy,i,px,py,vx,vy,w,hh,rd,fx,ax,s⟩:=m;have h1:=h.ax;have h2:=h.A.sg;have h3:=h.A.y1;have h4:=h.A.y2;have h5:=h.m0;have h6:=h.m1;replace h1:ax=1:=h1;replace h2:s=1∨s = -1:=h2;replace h3 : -1048576<=py:=h3;replace h4:py<=1048576:=h4;subst h1;refine Ai (show UU (s*py) by unfold UU;rcases h2 with rfl|rfl<;>omega) ?_;refine Ai (show UU (1048576-s*py) by unfold UU;rcases h2 with rfl|rfl<;>omega) ?_;refine Ai ?_ ?_;show UU (min most (1048576-s*py)+1);unfold UU;rcases h2 with rfl|rfl<;>omega;refine⟨rfl,(),[],[.freeze 4],trivial,trivial,?_⟩;repeat' (first|refine Ai ?_ ?_|intro _|exact rfl)
theorem HQ{m:UY}{a:Nat}{most:Int}{k:Nat}(h:(decide (m.eY a ((ca m m.sBodies.n).getD k Xk) most<(m.fI a most k).1)||(decide (m.eY a ((ca m m.sBodies.n).getD k Xk) most=(m.fI a most k).1)&&decide (m.eY a ((ca m m.sBodies.n).getD k Xk) most<=most)&&decide ((m.fI a most k).2<0)))=true) :
  m.fI a most (k+1)=(m.eY a ((ca m m.sBodies.n).getD k Xk) most,((ca m m.sBodies.n).getD k Xk).iD):=by
 rw[UY.fI];revert h;cases decide (m.eY a ((ca m m.sBodies.n).getD k Xk) most<(m.fI a most k).1)<;>cases decide (m.eY a ((ca m m.sBodies.n).getD k Xk) most=(m.fI a most k).1)<;>cases decide (m.eY a ((ca m m.sBodies.n).getD k Xk) most<=most)<;>cases decide ((m.fI a most k).2<0)<;>intro h<;>first|rfl|cases h
theorem HR{m:UY}{a:Nat}{most:Int}{k:Nat}(h:(decide (m.eY a ((ca m m.sBodies.n).getD k Xk) most<(m.fI a most k).1)||(decide (m.eY a ((ca m m.sBodies.n).getD k Xk) most=(m.fI a most k).1)&&decide (m.eY a ((ca m m.sBodies.n).getD k Xk) most<=most)&&decide ((m.fI a most k).2<0)))=false) :
  m.fI a most (k+1)=m.fI a most k:=by
 rw[UY.fI];revert h;cases decide (m.eY a ((ca m m.sBodies.n).getD k Xk) most<(m.fI a most k).1)<;>cases decide (m.eY a ((ca m m.sBodies.n).getD k Xk) most=(m.fI a most k).1)<;>cases decide (m.eY a ((ca m m.sBodies.n).getD k Xk) most<=most)<;>cases decide ((m.fI a most k).2<0)<;>intro h<;>first|rfl|cases h
def rcE(m:UY)(a:Nat)(most:Int):qQ:=⟨Nat,λk=>k<=(du m m.sRopes.n).length,λk=>k,λk=>[(0,.lay m.cells 216),(1,.lay [i64 most] 3),(2,.lay [i64 (m.wS a most k)] 3),(3,.lay [.il .i64 (-1)] 3)],λ_=>5⟩
def rcB(m:UY)(a:Nat)(most:Int):qQ:=⟨Nat,λk=>k<=(ca m m.sBodies.n).length,λk=>k,λk=>[(0,.lay m.cells 216),(1,.lay [i64 most] 3),(2,.lay [i64 (m.fI a most k).1] 3),(3,.lay [i64 (m.fI a most k).2] 3)],λ_=>6⟩
set_option maxRecDepth 100000 in
theorem Mc(m:UY)(a:Nat)(most:Int)(h:m.Zw a most)(k:Nat)(hk:k<(du m m.sRopes.n).length):ev (C:=cx) (gR m h.A) 68 5 (gO (C:=cx) (gR m h.A) Xf 2) (dT Xf) rH (rfA yb) ⟨ig 0 [31,32] [((du m m.sRopes.n).getD k Z').1.sv,i64 ((du m m.sRopes.n).getD k Z').2]++sl 30 (.f (.func 230) [] [.rp m.cells 0])::FB,(rcE m a most).H k,5,0,[],[]⟩ (λe YM=>match e with
  | .normal=>ev (C:=cx) (gR m h.A) 68 5 (gO (C:=cx) (gR m h.A) Xf 2) (dT Xf) rH (rfB yb) YM (λe Z9=>match e with
   | .normal=>(rcE m a most).at_ 5 (k+1) Z9
   | _=>False)
  | _=>False):=by
 have hp:=JV h hk;have hb:=rA (m:=m) (a:=a) h.m0 h.wall.1 k;refine Ai ⟨⟨h.m0,Int.le_trans h.m1 (by decide)⟩,_,_,hp,rfl⟩ ?_;refine⟨k+1,[],[],rfl,hk,?_⟩;repeat' (first|refine Ai ?_ ?_|intro _|exact rfl)
set_option maxRecDepth 100000 in
theorem Md(m:UY)(a:Nat)(most:Int)(h:m.Zw a most)(k:Nat)(hk:k<(ca m m.sBodies.n).length):ev (C:=cx) (gR m h.A) 68 6 (gO (C:=cx) (gR m h.A) Xf 2) (dT Xf) rH (rfA yc) ⟨ig 0 [40] [((ca m m.sBodies.n).getD k Xk).sv]++sl 39 (.f (.func 235) [] [.rp m.cells 0])::FB,(rcB m a most).H k,6,0,[],[]⟩ (λe YM=>match e with
  | .normal=>ev (C:=cx) (gR m h.A) 68 6 (gO (C:=cx) (gR m h.A) Xf 2) (dT Xf) rH (rfB yc) YM (λe Z9=>match e with
   | .normal=>(rcB m a most).at_ 6 (k+1) Z9
   | _=>False)
  | _=>False):=by
 have hp:=Hv h hk;obtain rfl:a=m.axis.toNat:=by have:=h.ax;omega
 refine Ai ⟨λ_ _=>trivial,λ_ _=>trivial,rfl,hp,h.m0,h.m1⟩ ?_;refine Ai (λhc=>?_) (λhc=>?_)
 ·have hs:=HQ (m:=m) (a:=m.axis.toNat) (most:=most) (k:=k) hc;refine⟨k+1,[],[],rfl,hk,?_⟩;repeat' (first|refine Ai ?_ ?_|intro _|exact rfl)
  all_goals first|exact Uv Prod.fst hs|exact Uv Prod.snd hs
 have hs:=HR (m:=m) (a:=m.axis.toNat) (most:=most) (k:=k) hc;refine⟨k+1,[],[],rfl,hk,?_⟩;repeat' (first|refine Ai ?_ ?_|intro _|exact rfl)
 all_goals first|exact Uv Prod.fst hs|exact Uv Prod.snd hs
def Ua(m:UY)(a:Nat)(most:Int):Cut:=⟨Unit,λ_=>True,λ_=>⟨sl 39 (.f (.func 235) [] [.rp m.cells 0])::FB,[(0,.lay m.cells 216),(1,.lay [i64 most] 3),(2,.lay [i64 (m.fI a most 0).1] 3),(3,.lay [i64 (m.fI a most 0).2] 3)],6,0,[],[]⟩,λ_=>0⟩
set_option maxRecDepth 100000 in
theorem MM(m:UY)(a:Nat)(most:Int)(h:m.Zw a most):ev (C:=cx) (gR m h.A) 68 5 (gO (C:=cx) (gR m h.A) Xf 2) (dT Xf) rH (Vo (Vo r4)) ⟨sl 30 (.f (.func 230) [] [.rp m.cells 0])::FB,(rcE m a most).H (du m m.sRopes.n).length,5,0,[],[]⟩ (λx st=>x=.normal∧(Ua m a most).at_ 5 st λ_=>True):=by refine⟨rfl,(),[],[.freeze 5],trivial,trivial,?_⟩;repeat' (first|refine Ai ?_ ?_|intro _|exact rfl)
def Ie(m:UY)(a:Nat)(most:Int):SV:=.tup [.v (.int .i64 (mU m a most).1),.v (.int .i64 (mU m a most).2)]
set_option maxRecDepth 100000 in
theorem HN(m:UY)(a:Nat)(most:Int)(h:m.Zw a most):ev (C:=cx) (gR m h.A) 68 6 (gO (C:=cx) (gR m h.A) Xf 2) (dT Xf) rH r5 ⟨sl 39 (.f (.func 235) [] [.rp m.cells 0])::FB,(rcB m a most).H (ca m m.sBodies.n).length,6,0,[],[]⟩ (λe st=>e=.ret∧qN cx Tryz.f126.results.toList st λv=>af (Ie m a most) st.H v):=by have hb:=CY (m:=m) (a:=a) h.m0 h.wall.1 (ca m m.sBodies.n).length;have:=h.m1;refine Ai (show UU ((m.fI a most (ca m m.sBodies.n).length).1-1) by unfold UU;omega) ?_;repeat' (first|refine Ai ?_ ?_|intro _|exact rfl)
set_option maxRecDepth 100000 in
set_option maxHeartbeats 1000000 in
theorem Bf{m:UY}{a:Nat}{most:Int}(h:m.Zw a most){ze:Nat->Nat->Value->Prop}{W:World}{vs:List Value}(hG:cx.Xe W)(hz:∀b i c,ze b i c->W.cell? ⟨b,i,none⟩=some c∧c.oneCell'=true)(hd:ao (aB ze) [m.sv,i64 most] vs) :
  bx Tryz.prog false 126 vs.toArray W λe W'=>∃v val H' VE US,e=.returned val∧af (Ie m a most) H' v∧Mem cx W (aB ze).VK VE US W'∧(∀n sb,look H' n=some sb->c8 US W' n sb)∧den US v val:=by
 intro E hE cs XC;have hpre:ev (C:=cx) (gR m h.A) 68 0 (gO (C:=cx) (gR m h.A) Xf 2) (dT Xf) rH E6 ⟨bB 0 [m.sv,i64 most],[],0,0,[],[]⟩ (λx st=>x=.normal∧(QU m a most).at_ 0 st λ_=>True):=by rcases h.ha with e|e;subst e;exact ID m most h;subst e;exact IC m most h
 refine mi hE Tryz.func126 (c:=rB) (by kernel_rfl) XC ?_;intro k h3;have hb:(fb 126).kind≠.early:=by decide
 have We:(fb 126).roundOf=none:=rfl;have hI:=cA (C:=cx) (Γ:=gR m h.A) (Fs:=Xf) follows 2;have hnt:Tryz.f126.ntmps=68:=by kernel_rfl
 rw[hnt];have A0:=vz (C:=cx) (n:=68) (show ([m.sv,i64 most]:List SV).length<=68 from(by decide:2<=68)) hG hz hd;refine mQ (h:=rH) hE hI follows hb We OV rfl (by kernel_rfl) A0 hpre (λ_ _ h=>h.1) λst1 Vx a1 W1 he1 A1=>?_;refine mQ (h:=rH) hE hI follows hb We OZ rfl (by kernel_rfl) A1 he1 (λ_ _ h=>h.1) λYM WU a2 W2 he2 A2=>?_;refine mQ (h:=rH) hE hI follows hb We OY rfl (by kernel_rfl) A2 he2 (λ_ _ h=>h.1) λZ9 ρ3 a3 W3 he3 A3=>?_;rw[OX];refine oL hE ?_;refine rG (h:=rH) hE hI follows hb We rfl (by kernel_rfl) A3 he3 λu ρ4 a4 W4 _ A4=>?_;rw[C2];refine oM hE ?_;rw[Ma];refine vA (Γ:=gR m h.A) (inls:=dT Xf) (h:=rH) (c:=rcE m a most) hE follows hI hb We A4 (g:=.tmp 30) (ps:=[31,32]) (cap:=[.rp m.cells 0]) rfl rfl (λ_ _=>Tryz.call230 _ _) (λ_=>dC (fl:=[]) (fn:=Tryz.f230) Tryz.func230 (by kernel_rfl) _) (Fx m h.en) (by decide) (by decide) (λ_=>rfl) (by kernel_rfl) (by kernel_rfl) ?_ ?_ ?_
 ·refine⟨(0:Nat),[],[],rfl,Up _,?_⟩;repeat' (first|refine Ai ?_ ?_|intro _|exact rfl)
 intro k _ hk;exact Mc m a most h k hk;intro x D1 ρ5 a5 W5 hx hxe A5;obtain rfl:x=(du m m.sRopes.n).length:=hxe;refine ia hE ?_;rw[OW];refine oL hE ?_;refine rG (h:=rH) hE hI follows hb We rfl (by kernel_rfl) A5 (MM m a most h) λu2 ρ6 a6 W6 _ A6=>?_;rw[C3];refine oM hE ?_;rw[Mb];refine vA (Γ:=gR m h.A) (inls:=dT Xf) (h:=rH) (c:=rcB m a most) hE follows hI hb We A6 (g:=.tmp 39) (ps:=[40]) (cap:=[.rp m.cells 0]) rfl rfl (λ_ _=>Tryz.call235 _ _) (λ_=>dC (fl:=[1003]) (fn:=Tryz.f235) Tryz.func235 (by kernel_rfl) _) (Qj m h.en.nb) (by decide) (by decide) (λ_=>rfl) (by kernel_rfl) (by kernel_rfl) ?_ ?_ ?_
 ·refine⟨(0:Nat),[],[],rfl,Up _,?_⟩;repeat' (first|refine Ai ?_ ?_|intro _|exact rfl)
 intro k _ hk;exact Md m a most h k hk;intro x D2 ρ7 a7 W7 hx hxe A7;obtain rfl:x=(ca m m.sBodies.n).length:=hxe;refine ia hE ?_;refine mR (h:=rH) hE hI follows hb We (by kernel_rfl) A7 (HN m a most h) λe st8 ρ8 a8 W8 hk A8=>?_;have ZH:qN cx Tryz.f126.results.toList st8 (λv=>af (Ie m a most) st8.H v)->∀todo,E (G { (fb 126).at a8 todo with mode:=.returning} cs) W8:=λhk todo=>by refine Aa (K:=λv H _=>af (Ie m a most) H v) hE Tryz.func126 hk (λv W' fr ⟨v',H',VE,US,q1,q2,q3,q4⟩ hfn hl=>?_) todo (UT:=(aB ze).VK) (λb h=>by cases h) A8;exact XC (.returned v) W' fr ⟨v',v,H',VE,US,rfl,q1,q2,q3,q4⟩ hfn hl
 obtain⟨rfl,hk⟩:=hk;exact⟨trivial,ZH hk⟩
set_option maxRecDepth 100000 in
noncomputable def NL:UW cx:=qx 126 Tryz.call126 (dC (fl:=[]) (fn:=Tryz.f126) Tryz.func126 (by kernel_rfl)) (aD uN (Vm .i64)) (λx=>[x.1.Zw x.1.axis.toNat x.2]) (λx=>Ie x.1 x.1.axis.toNat x.2) λx ze W vs hp hG hz hd=>by obtain⟨m,most⟩:=x;replace hp:m.Zw m.axis.toNat most:=hp;refine(Bf hp hG hz hd).mono λe W' ⟨v,val,H',VE,US,h1,h2,h3,h4,h5⟩=>?_;obtain⟨q1,q2,q3⟩:=oC h2 h3 h4 h5;exact⟨val,(zR US W').z,h1,q1,q2,q3⟩
end Go.Proofs.YtgigkennhdolpaaGreatDoor
namespace Go.Proofs.YtgigkennhdolpaaGreatDoor
open Go.RowKit
set_option maxRecDepth 8000
set_option maxHeartbeats 2000000
def X3.ids(l:X3)(i:Nat):Int:=(l.e i).iD
structure mo (l:X3) (r:gV):Prop where
 ab:r.a<r.b
 l0:0<=r.len
 l1:r.len<=2097152
 a:dD l.ids l.n r.a=true
 b:dD l.ids l.n r.b=true
structure VT.Ok (s:VT):Prop where
 nb:s.bodies.n<=64
 nr:s.ropes.n<=32
 g:gOk ⟨s.gravityX,s.gravityY⟩
 ok:∀i,i<s.bodies.n->(s.bodies.e i).ok=true
 inc:Yr s.bodies.ids s.bodies.n
 ro:∀i,i<s.ropes.n->mo s.bodies (s.ropes.e i)
theorem GG:∀a,aA ((λa=>[∃s:VT,s.bodies.n<=64∧Yr s.bodies.ids s.bodies.n∧mo s.bodies a.1∧a.2=.rp s.cells 0]) a)->aH (C:=cx) [KE] [] 0 ai Tryz.f183 ((aD vX Vy).enc a) λv H _=>af ((λ_=>.bl false) a) H v:=by
 intro⟨r,x⟩ hx;obtain⟨s,h1,h2,h3,hx⟩:∃s:VT,s.bodies.n<=64∧Yr s.bodies.ids s.bodies.n∧mo s.bodies r∧x=.rp s.cells 0:=hx;subst hx;refine Ai ⟨λ_ _=>trivial,(show (s.bodies.n:Int)<=4611686018427387903 by omega),h2,rfl⟩ ?_;refine Ai ⟨λ_ _=>trivial,(show (s.bodies.n:Int)<=4611686018427387903 by omega),h2,rfl⟩ ?_;show false=(!dD s.bodies.ids s.bodies.n r.a||!dD s.bodies.ids s.bodies.n r.b||decide (r.b<=r.a)||decide (r.len<0)||decide (2097152<r.len))
 rw[h3.a,h3.b,UA (by have:=h3.ab;omega),UA (by have:=h3.l0;omega),UA (by have:=h3.l1;omega)];rfl
noncomputable def NG:UW cx:=ae 183 Tryz.call183 (aD vX Vy) _ _ (λ_=>ai) [] (λ_=>rfl) follows Tryz.func183 (by kernel_rfl) GG
def Qe(F:Xx)(s:VT):Cut:=⟨Nat,λk=>k<=F.n,λk=>⟨[sl 0 F.sv,sl 1 (.f (.func 183) [] [.rp s.cells 0]),sl 7 (i64 F.n),sl 8 (i64 k)],[],0,0,[],[]⟩,λk=>F.n-k⟩
theorem Cr:∀a,aA ((λa=>[a.1.n<=1000,∃s:VT,s.bodies.n<=64∧Yr s.bodies.ids s.bodies.n∧(∀i,i<a.1.n->mo s.bodies (a.1.e i))∧a.2=.f (.func 183) [] [.rp s.cells 0]]) a)->aH (C:=cx) [NG] [] 0 ⟨[],[],[2],0⟩ Tryz.f83 ((aD gW Vy).enc a) λv H _=>af ((λ_=>.il .i64 (-1)) a) H v:=by
 intro⟨⟨N,F⟩,x⟩ ⟨hm,hx⟩;obtain⟨s,h1,h2,h3,hx⟩:∃s:VT,s.bodies.n<=64∧Yr s.bodies.ids s.bodies.n∧(∀i,i<N->mo s.bodies (F i))∧x=.f (.func 183) [] [.rp s.cells 0]:=hx;subst hx;replace hm:N<=1000:=hm;refine T' (Qe ⟨N,F⟩ s) ?_;refine Ai ?_ ?_
 ·refine⟨(0:Nat),[],[],trivial,Up _,?_⟩;repeat' (first|refine Ai ?_ ?_|intro _|exact rfl)
 refine fun(k:Nat) (hk:k<=N)=>?_;refine Ai (λhb=>?_) (λhb=>?_)
 ·have hb:(k:Int)<N:=Od hb;refine Ai ⟨by omega,by omega⟩ ?_;refine Ai ⟨s,h1,h2,h3 k (by omega),rfl⟩ ?_;refine Ai (by unfold U1;omega:U1 ((k:Int)+1)) ?_;refine⟨k+1,[],[],(by show N-(k+1)<N-k;omega),(by show k+1<=N;omega),?_⟩;repeat' (first|refine Ai ?_ ?_|intro _|exact rfl)
 exact rfl
noncomputable def Kv:UW cx:=ae 83 Tryz.call83 (aD gW Vy) _ _ (λ_=>⟨[],[],[2],0⟩) [] (λ_=>rfl) follows Tryz.func83 (by kernel_rfl) Cr
theorem AB:∀a,aA ((λa=>[a.1.n<=1000,∃s:VT,s.bodies.n<=64∧Yr s.bodies.ids s.bodies.n∧(∀i,i<a.1.n->mo s.bodies (a.1.e i))∧a.2=.f (.func 183) [] [.rp s.cells 0]]) a)->aH (C:=cx) [Kv] [] 0 ai Tryz.f46 ((aD gW Vy).enc a) λv H _=>af ((λ_=>.bl false) a) H v:=by intro⟨l,x⟩ ⟨hm,hx⟩;obtain⟨s,h1,h2,h3,hx⟩:∃s:VT,s.bodies.n<=64∧Yr s.bodies.ids s.bodies.n∧(∀i,i<l.n->mo s.bodies (l.e i))∧x=.f (.func 183) [] [.rp s.cells 0]:=hx;subst hx;refine Ai ⟨λ_ _=>trivial,hm,s,h1,h2,h3,rfl⟩ ?_;exact rfl
noncomputable def Ge:UW cx:=ae 46 Tryz.call46 (aD gW Vy) _ _ (λ_=>ai) [] (λ_=>rfl) follows Tryz.func46 (by kernel_rfl) AB
def T4(s:VT):Cut:=⟨Nat,λk=>k<=s.bodies.n,λk=>⟨[sl 1 (.p 0 0),sl 22 s.bodies.sv,sl 23 (i64 s.bodies.n),sl 24 (i64 k)],[(0,.lay s.cells 161)],1,0,[],[]⟩,λk=>s.bodies.n-k⟩
theorem G8:∀a,aA ((λs=>[s.Ok]) a)->aH (C:=cx) [xa,oN,Ge] [] 0 ⟨[1001,1006],[],[4],0⟩ Tryz.f122 ((bs lq).enc a) λv H _=>af ((λ_=>.bl true) a) H v:=by
 intro s h;replace h:s.Ok:=h;have hnb:=h.nb;have hnr:=h.nr;refine Ai (λhb=>?_) (λhb=>Uw (show decide ((64:Int)<s.bodies.n)=true from hb) (by rw[UA (by omega)];decide));refine Ai (λhb=>?_) (λhb=>Uw (show decide ((32:Int)<s.ropes.n)=true from hb) (by rw[UA (by omega)];decide));refine Ai h.g ?_;refine T' (T4 s) ?_;refine Ai ?_ ?_
 ·refine⟨(0:Nat),[],[],trivial,Up _,?_⟩;repeat' (first|refine Ai ?_ ?_|intro _|exact rfl)
 refine fun(k:Nat) (hk:k<=s.bodies.n)=>?_;refine Ai (λhb=>?_) (λhb=>?_)
 ·have hb:(k:Int)<s.bodies.n:=Od hb;have Vg:=h.ok k (by omega);refine Ai ⟨by omega,by omega⟩ ?_;refine Ai (λh1 h2=>(show UU ((k:Int)-1) by unfold UU;omega)) ?_;refine Ai (λh1 h2=>?_) ?_;have h3:(0:Int)<k:=(by first|exact Od h1|exact Od h2);exact(show 0<=(k:Int)-1∧(k:Int)-1<s.bodies.n by omega);have V6:(!(s.bodies.e k).ok||(decide (0<(k:Int))&&decide ((s.bodies.e k).iD<=(s.bodies.e ((k:Int)-1).toNat).iD)))=false:=(by rw[Vg];by_cases X':(0:Int)<k;have hi:=h.inc ((k:Int)-1).toNat k (by omega) (by omega);have hi:(s.bodies.e ((k:Int)-1).toNat).iD<(s.bodies.e k).iD:=hi;rw[UA (by omega:¬(s.bodies.e k).iD<=(s.bodies.e ((k:Int)-1).toNat).iD),Bool.and_false];rfl;rw[UA X'];rfl);refine Ai (λhc=>Uw (show (!(s.bodies.e k).ok||(decide (0<(k:Int))&&decide ((s.bodies.e k).iD<=(s.bodies.e ((k:Int)-1).toNat).iD)))=true from hc) (by rw[V6];decide)) (λ_=>?_);refine Ai (by unfold U1;omega:U1 ((k:Int)+1)) ?_;refine⟨k+1,[],[],(by show s.bodies.n-(k+1)<s.bodies.n-k;omega),(by show k+1<=s.bodies.n;omega),?_⟩;repeat' (first|refine Ai ?_ ?_|intro _|exact rfl)
 have hb:¬(k:Int)<s.bodies.n:=Uy hb;refine Ai ⟨λ_ _=>trivial,(show s.ropes.n<=1000 by omega),s,hnb,h.inc,h.ro,rfl⟩ ?_;exact rfl
noncomputable def N4:UW cx:=ae 122 Tryz.call122 (bs lq) _ _ (λ_=>⟨[1001,1006],[],[4],0⟩) [1001,1006] (λ_=>rfl) follows Tryz.func122 (by kernel_rfl) G8
end Go.Proofs.YtgigkennhdolpaaGreatDoor
