/- store: copied. -/
import Derived.Test.YtmdpdknpapjchaaGreatDoorM26
import Derived.Test.YtmdpdknpapjchaaGreatDoorM24
set_option linter.all false
namespace Go.Proofs.YtmdpdknpapjchaaGreatDoor
set_option maxRecDepth 100000
noncomputable section
section
open Go.RowKit
set_option maxHeartbeats 2000000
variable {i k:Nat}
theorem yW:∀a,aD ((λa=>[∀i,i<a.l.n->(a.l.e i).l.n<=1000,a.l.n<=1000]) a)->aJ (C:=cx) [sN] [] 0 ⟨[],[],[3],1⟩ Tryz.f54 ((bh cI).enc a) λv H _=>se ((λa=>a.sv) a) 39 H v:=by
 intro w ⟨hm,hn⟩;replace hm:∀i,i<w.l.n->(w.l.e i).l.n<=1000:=hm;replace hn:w.l.n<=1000:=hn;refine F8 (Rx w) ?_;refine Ai ?_ ?_
 ·refine⟨(0:Nat),[],[.cell2 2 1 2 39],trivial,F9 _,?_⟩;repeat' first|apply Ai|exact rfl|intro
  all_goals exact P' ‹_<0› (F1 _)
 refine fun(k:Nat) (hk:k<=w.l.n)=>?_;refine Ai (λhb=>?_) (λhb=>?_)
 ·have hb:(k:Int)<w.l.n:=Od hb;refine Ai ⟨by omega,by omega⟩ ?_;refine Ai ⟨λ_ _=>trivial,hm k (by omega)⟩ ?_;have Yo:gQ (k+1) 32:=⟨Nat.le_trans (by omega:k+1<=1001) (by decide),by omega⟩
  refine Ai ⟨Yo,?_⟩ ?_
  ·(repeat' (first|apply Ai|exact rfl|intro));all_goals exact trivial
  refine Ai (by unfold XT;omega:XT ((k:Int)+1)) ?_;refine⟨k+1,[(4,7)],[],(by show w.l.n-(k+1)<w.l.n-k;omega),(by omega:k+1<=w.l.n),?_⟩;repeat' first|apply Ai|exact rfl|intro
  rename_i i hi;exact gN (λi=>(w.l.e i).iD) hi;rename_i i hi;exact gN (λi=>(w.l.e i).l.n) hi;rename_i i hi j hj;exact gN (λi=>((w.l.e i).l.c j).kind) hi;rename_i i hi j hj;exact gN (λi=>((w.l.e i).l.c j).v0) hi;rename_i i hi j hj;exact gN (λi=>((w.l.e i).l.c j).v1) hi;rename_i i hi j hj;exact gN (λi=>((w.l.e i).l.c j).v2) hi;rename_i i hi j hj;exact gN (λi=>((w.l.e i).l.c j).v3) hi
 have hb:¬(k:Int)<w.l.n:=Xg hb;obtain rfl:k=w.l.n:=by omega
 repeat' first|apply Ai|exact rfl|intro
 exact(O' (λq=>(w.l.e q).iD) (B' _)).symm;exact(O' (λq=>(w.l.e q).l.n) (B' _)).symm;rename_i i hi j hj;exact(O' (λq=>((w.l.e q).l.c j).kind) (B' _)).symm;rename_i i hi j hj;exact(O' (λq=>((w.l.e q).l.c j).v0) (B' _)).symm;rename_i i hi j hj;exact(O' (λq=>((w.l.e q).l.c j).v1) (B' _)).symm;rename_i i hi j hj;exact(O' (λq=>((w.l.e q).l.c j).v2) (B' _)).symm;rename_i i hi j hj;exact(O' (λq=>((w.l.e q).l.c j).v3) (B' _)).symm
def oM:XR cx:=y9 54 Tryz.call54 (bh cI) (λa=>[∀i,i<a.l.n->(a.l.e i).l.n<=1000,a.l.n<=1000]) (λa=>a.sv) 39 (λ_=>⟨[],[],[3],1⟩) [] (λ_=>rfl) follows Tryz.func54 (by kernel_rfl) yW
def shU(k i:Nat):Nat:=bif Nat.ble k i then i+1 else i
theorem mj(h:i<k):shU k i=i:=by
 unfold shU;cases hb:Nat.ble k i with
 | false=>rfl
 | true=>have:=F4 hb;omega
theorem kY(h:k<=i):shU k i=i+1:=by unfold shU;rw[Nat.ble_eq_true_of_le h];rfl
def XU.less(w:XU)(k:Nat):XU:=⟨w.tick,⟨w.l.n-1,λi=>w.l.e (shU k i)⟩⟩
def XU.no:XU:=⟨0,⟨0,λ_=>XO.no⟩⟩
def zH(w:XU)(id:Int):XU:=w.less (av w id).1
def Vr:Y0 cx:=⟨61,Tryz.call61,Tryz.f61,Tryz.func61,[5],[],[],0,by kernel_rfl⟩
theorem M1:∀a,aD ((λa=>[a.1.l.Sm,(av a.1 a.2).2=true]) a)->aJ (C:=cx) [{gl with ovr:=true},pA,oM] [Vr] 1 ⟨[],[],[],0⟩ Tryz.f28 ((aH cI (Yp .i64)).enc a) λv H _=>ae ((λa=>.tup [(zH a.1 a.2).sv,.il .i64 0]) a) H v:=by
 intro⟨w,id⟩ ⟨hm,hf⟩;replace hm:w.l.Sm:=hm;replace hf:(av w id).2=true:=hf;obtain⟨h1,h2,h3⟩:=uE hf;refine Ai ⟨(by repeat' first|exact trivial|exact rfl|apply Ai|intro),hm⟩ ?_;refine Ai (λhv=>?_) (λhv=>?_);have hv:(!w.valid)=true:=hv;rw[XU.cA.2 h1] at hv;cases hv;refine Ai ⟨(by repeat' first|exact trivial|exact rfl|apply Ai|intro),hm⟩ ?_;refine Ai (λhc=>?_) (λhc=>?_);have hc:(!(av w id).2)=true:=hc;rw[hf] at hc;cases hc;have hl:=h1.len;have c1:∀i,i<w.l.n->(w.l.e i).l.n<=1000:=λi hi=>by have:=(h1.right _ hi).len;omega
 have c2:w.l.n<=1000:=by omega
 refine Ai ⟨(by repeat' first|exact trivial|exact rfl|apply Ai|intro),c1,c2⟩ ?_;have q0:Yd ((av w id).1+1):=by unfold Yd;omega
 refine Ai q0 ?_;have q1:(0:Int)<=((av w id).1:Int)∧((av w id).1:Int)<=((av w id).1:Int)+1∧((av w id).1:Int)+1<=(w.l.n:Int)∧0+(w.l.n:Int).toNat<=w.l.n:=⟨by omega,by omega,by omega,by omega⟩
 refine Ai q1 ?_;refine Ai (λhe=>?_) (λhe=>?_);have he:((av w id).1:Int)=((av w id).1:Int)+1:=Od he;omega;have q2:(0:Int)<=((av w id).1:Int)∧((av w id).1:Int)<=(w.l.n:Int):=⟨by omega,by omega⟩
 refine Ai q2 ?_;have q3:(0:Int)<=((av w id).1:Int)+1∧((av w id).1:Int)+1<=(w.l.n:Int):=⟨by omega,by omega⟩
 refine Ai q3 ?_;have q4:((av w id).1:Int).toNat+(w.l.n-(((av w id).1:Int)+1).toNat)<=w.l.n:=by omega
 refine Ai ⟨q4,(by repeat' first|exact trivial|exact rfl|apply Ai|intro)⟩ ?_;have q5:(0:Int)<=((((av w id).1:Int).toNat+(w.l.n-(((av w id).1:Int)+1).toNat):Nat):Int)∧((((av w id).1:Int).toNat+(w.l.n-(((av w id).1:Int)+1).toNat):Nat):Int)<=(w.l.n:Int)∧0+(w.l.n:Int).toNat<=w.l.n:=⟨by omega,by omega,by omega⟩
 refine Ai q5 ?_;refine Ai (by repeat' first|exact trivial|exact rfl|apply Ai|intro) ?_;repeat' first|apply Ai|exact rfl|intro
 ·show w.l.n-1=((av w id).1:Int).toNat+(w.l.n-(((av w id).1:Int)+1).toNat)
  replace h2:(av w id).1<w.l.n:=h2;omega
 rename_i i hi;have hi:i<((av w id).1:Int).toNat+(w.l.n-(((av w id).1:Int)+1).toNat):=hi;show aT (Yv 0 [] (w.l.e (shU (av w id).1 i)).cells (jnL (mE (0+((((av w id).1:Int).toNat+(w.l.n-(((av w id).1:Int)+1).toNat):Nat):Int).toNat) ((w.l.n:Int).toNat-((((av w id).1:Int).toNat+(w.l.n-(((av w id).1:Int)+1).toNat):Nat):Int).toNat) (0+i)) [.il .i64 0,.v (.slice none 0 0)] (jnL (mE ((av w id).1:Int).toNat (w.l.n-(((av w id).1:Int)+1).toNat) (0+i)) (w.l.e (0+(((av w id).1:Int)+1).toNat+(0+i-((av w id).1:Int).toNat))).cells (w.l.e (0+i)).cells)));rw[dH (by omega)];rcases Nat.lt_or_ge i (av w id).1 with X0|hge
 ·rw[dH (by omega),mj X0,B' i];repeat' first|apply Ai|exact rfl|intro
 rw[ir (by omega) (by omega),kY hge,show 0+(((av w id).1:Int)+1).toNat+(0+i-((av w id).1:Int).toNat)=i+1 by omega,B' i];repeat' first|apply Ai|exact rfl|intro
def Ma:XR cx:=af 28 Tryz.call28 (aH cI (Yp .i64)) _ _ (λ_=>⟨[],[],[],0⟩) [] (λ_=>rfl) follows Tryz.func28 (by kernel_rfl) M1
end
section
open Go.Conc Go.RowKit
variable {a:Act}{X:Code}{b:Frame}{i:Int}{q:LV}{cs:List Frame}{k:List Item}{vs:List Value}{XN YA ρ:Names}{j n nm0 nt t x:Nat}{st:St}{w0:World}
section
variable {PP:Program}{C:Cx PP}{Ds:List Nat}{W:World}{co:Bool}{E:Goroutine->World->Prop}{ops:Array Oper}{i d:Nat}{rest:List Nat}
theorem vr(hE:Closed C.P co E)(hk:b.kind≠.early){op:Op}(hO:Zl ops i=some (some d,op,none))(A:AtR C nt w0 XN nm0 Ds st ρ a W)(hd:d<nt)(sv:SV)(v:Value)(hv:den ρ sv v)(hr:∀ty pos after,mX C.P a ⟨some d,op,ty,pos,after,none⟩ W v)
  (h:∀a',AtR C nt w0 XN nm0 Ds ⟨(d,⟨0,0,[],sv⟩)::st.sl,st.H,st.nm,st.rg,[],[]⟩ ρ a' W->E (G (b.at a' (.inRegion ops rest::k)) cs) W):E (G (b.at a (.inRegion ops (i::rest)::k)) cs) W:=by
 obtain⟨ty,pos,after,ho⟩:=dO hO;exact Ru hE hk ho rfl (hr ty pos after) (h _ (A.put hd hv))
theorem iN(hE:Closed C.P co E)(hk:b.kind≠.early)(hO:Zl ops i=some (some d,.move (.tmp t),none))(A:AtR C nt w0 XN nm0 Ds st ρ a W)(hd:d<nt){s:Slot}(hs:look st.sl t=some s)(hg:s.g=[])(h:∀a',AtR C nt w0 XN nm0 Ds ⟨(d,⟨0,0,[],s.v⟩)::st.sl,st.H,st.nm,st.rg,[],[]⟩ ρ a' W->E (G (b.at a' (.inRegion ops rest::k)) cs) W):E (G (b.at a (.inRegion ops (i::rest)::k)) cs) W:=by
 obtain⟨x,h1,h2⟩:=A.slot hs hg;exact vr hE hk hO A hd s.v x h1 (λ_ _ _=>jd h2) h
theorem ML(hE:Closed C.P co E)(hk:b.kind≠.early)(hO:Zl ops i=some (some d,.assign (.tmp t),none))(A:AtR C nt w0 XN nm0 Ds st ρ a W)(hd:d<nt){s:Slot}(hs:look st.sl t=some s)(hg:s.g=[])(h:∀a',AtR C nt w0 XN nm0 Ds ⟨(d,⟨0,0,[],s.v⟩)::st.sl,st.H,st.nm,st.rg,[],[]⟩ ρ a' W->E (G (b.at a' (.inRegion ops rest::k)) cs) W):E (G (b.at a (.inRegion ops (i::rest)::k)) cs) W:=by
 obtain⟨x,h1,h2⟩:=A.slot hs hg;exact vr hE hk hO A hd s.v x h1 (λ_ _ _=>qV h2) h
theorem BK(hE:Closed C.P co E)(hk:b.kind≠.early){op:BinOp}{t yt:TypeId}{y:Nat}(hO:Zl ops i=some (some d,.binOp op t (.tmp x) (.tmp y) yt,none))(A:AtR C nt w0 XN nm0 Ds st ρ a W)(hd:d<nt){s1 s2:Slot}(h1:look st.sl x=some s1)(g1:s1.g=[])(h2:look st.sl y=some s2)(g2:s2.g=[]){m n:Int}(i1:s1.v.int? = some (.i64,m))(i2:s2.v.int? = some (.i64,n))(v:Value)(hv:∀w,(binOp op t (.int .i64 m) (.int .i64 n)).run C.P w=.ok v w)(h:∀a',AtR C nt w0 XN nm0 Ds ⟨(d,⟨0,0,[],.v v⟩)::st.sl,st.H,st.nm,st.rg,[],[]⟩ ρ a' W->E (G (b.at a' (.inRegion ops rest::k)) cs) W):E (G (b.at a (.inRegion ops (i::rest)::k)) cs) W:=by
 obtain⟨x1,d1,e1⟩:=A.slot h1 g1;obtain⟨x2,d2,e2⟩:=A.slot h2 g2;obtain rfl:=SV.int?_den i1 d1;obtain rfl:=SV.int?_den i2 d2;exact vr hE hk hO A hd (.v v) v rfl (λ_ _ _=>ku e1 e2 hv) h
end
def iB:Code:=eK Tryz.f55
def ic1:Code:=X3 iB
def ic2:Code:=X3 ic1
def ic3:Code:=X3 ic2
def ic5:Code:=X3 ic3
def ic6:Code:=X3 ic5
def ic8:Code:=X3 ic6
def K5:Code:=X3 ic8
def Hm:Code:=X3 K5
def WL:Code:=.seq (X6 iB) (.seq (X6 ic1) (.seq (X6 ic2) (.seq (X6 ic3) (.seq (X6 ic5) (X6 ic6)))))
theorem Ro:iB=.seq (X6 iB) ic1:=by kernel_rfl
theorem K4:ic1=.seq (X6 ic1) ic2:=by kernel_rfl
theorem K3:ic2=.seq (X6 ic2) ic3:=by kernel_rfl
theorem K2:ic3=.seq (X6 ic3) ic5:=by kernel_rfl
theorem K1:ic5=.seq (X6 ic5) ic6:=by kernel_rfl
theorem K0:ic6=.seq (X6 ic6) ic8:=by kernel_rfl
def io8:Array Oper:=Zj (X6 (X6 ic8))
def S3:Array Oper:=Zj (X6 (X6 Hm))
theorem KZ:ic8=.seq (.seq (.region 8 io8 false) (.cond (.tmp 31) (cn1 (X3 (X6 ic8))) .skip)) K5:=by kernel_rfl
theorem Pk:K5=.seq (X6 K5) Hm:=by kernel_rfl
theorem Pj:Hm=.seq (.seq (.region 14 S3 false) (.cond (.tmp 68) (cn1 (X3 (X6 Hm))) .skip)) (X3 Hm):=by kernel_rfl
def iG:List (XR cx):=[{Mi with ovr:=true}]
def iI:Inl:=jB (C:=cx) iG [] 0
structure Raw where
 iD:Int
 a:Option Addr
 n:Nat
 cap:Nat
variable {g:Nat->Raw}{e r:Raw}
def Raw.cells(r:Raw):List SV:=[.v (.int .i64 r.iD),.v (.slice r.a r.n r.cap)]
def Raw.gz(r:Raw):List Value:=[.int .i64 r.iD,.slice r.a r.n r.cap]
theorem Raw.den : au ρ r.cells r.gz:=⟨_,_,rfl,rfl,_,_,rfl,rfl,rfl⟩
theorem Raw.eq{us:List Value}(h:au ρ r.cells us):us=r.gz:=by obtain⟨_,_,rfl,rfl,_,_,rfl,rfl,rfl⟩:=h;rfl
def j9(N:Nat)(f:Nat->List SV)(e:Raw):aU:=[(0,.lst 0 2 N f 39),(1,.lay e.cells 39)]
def WI(n N:Nat)(i:Int)(f:Nat->List SV)(e:Raw)(x:Ex)(st:St):Prop:=x=.normal∧vv st 0 (.g 0 0 2 0 n)∧vv st 1 (.v (.int .i64 i))∧vv st 2 (.s 1 2 0 1 1)∧vv st 7 (.il .i64 1)∧vv st 8 (i64 n)∧st.H=j9 N f e∧st.nm=2
theorem wO(n N:Nat)(i:Int)(f:Nat->List SV)(e:Raw)(h0:0<=i)(h1:i<n):ev (C:=cx) iG 95 2 iI (cd ([]:List (Y0 cx))) ak WL ⟨bw 0 [.g 0 0 2 0 n,.v (.int .i64 i),.s 1 2 0 1 1],j9 N f e,2,0,[],[]⟩ (WI n N i f e):=by refine Ai ⟨h0,by omega⟩ ?_;refine Ai (λhc=>?_) (λhc=>?_);have hc:i=(n:Int):=Od hc;omega;exact⟨rfl,⟨_,rfl,rfl,rfl⟩,⟨_,rfl,rfl,rfl⟩,⟨_,rfl,rfl,rfl⟩,⟨_,rfl,rfl,rfl⟩,⟨_,rfl,rfl,rfl⟩,rfl,rfl⟩
def in8(n:Nat)(i:Int):List (Nat×SV):=[(0,.g 0 0 2 0 n),(1,.v (.int .i64 i)),(2,.s 1 2 0 1 1),(7,.il .i64 1),(8,i64 n)]
section
variable {W:World}{E:Goroutine->World->Prop}
theorem E6(hE:Closed cx.P cx.co E)(hk:b.kind≠.early){N:Nat}{f:Nat->List SV}(A:AtR cx 95 w0 XN 2 [] ⟨rL (in8 n i),j9 N f e,2,0,[],[]⟩ ρ a W)(hq:ρ.v 0=some q)(hn:(n:Int)<=1000000)(h:∀a',AtR cx 95 w0 XN 2 [] ⟨rL (in8 n i),j9 N f e,2,0,[],[]⟩ ρ a' W->E (G (b.at a' (.code (if decide ((q.cap:Int)<(n:Int)+1) then X else .skip)::k)) cs) W):E (G (b.at a (.code (.seq (.region 8 io8 false) (.cond (.tmp 31) X .skip))::k)) cs) W:=by
 refine gL hE ?_;refine aR hE _ _ 6 rfl (by kernel_rfl) ?_;refine iN (C:=cx) (d:=26) (t:=8) hE hk (by kernel_rfl) A (by decide) rfl rfl λa1 A1=>?_;refine iN (C:=cx) (d:=27) (t:=7) hE hk (by kernel_rfl) A1 (by decide) rfl rfl λa2 A2=>?_;refine BK (C:=cx) (d:=28) (op:=.add) (t:=3) (yt:=3) (x:=26) (y:=27) hE hk (by kernel_rfl) A2 (by decide) rfl rfl rfl rfl rfl rfl (.int .i64 ((n:Int)+1)) (λw=>?_) λa3 A3=>?_;show (Op.intArith .add .i64 (n:Int) 1).run _ w=_;simp[Op.intArith,IntKind.wrap_i64];omega;refine iN (C:=cx) (d:=29) (t:=0) hE hk (by kernel_rfl) A3 (by decide) rfl rfl λa4 A4=>?_;obtain⟨x,⟨l,l1,l2,l3,l4,a',rfl,l5⟩,hx⟩:=A4.slot (t:=29) rfl rfl;rw[hq] at l1;obtain rfl:=Oi l1;refine vr (C:=cx) (d:=30) (op:=.call ⟨.builtin .cap,#[.tmp 29],#[26]⟩) hE hk (by kernel_rfl) A4 (by decide) (.v (goInt q.cap)) (goInt q.cap) rfl (λ_ _ _=>zB hx ⟨39,(by kernel_rfl)⟩) λa5 A5=>?_;refine BK (C:=cx) (d:=31) (op:=.gtr) (t:=3) (yt:=3) (x:=28) (y:=30) hE hk (by kernel_rfl) A5 (by decide) rfl rfl rfl rfl rfl rfl (.bool (decide ((q.cap:Int)<(n:Int)+1))) (λw=>rfl) λa6 A6=>?_;obtain⟨y,y1,y2⟩:=A6.slot (t:=31) rfl rfl;obtain rfl:y=_:=y1;refine aw hE (Dh hE y2 (h a6 ?_));refine A6.tell (in8 n i) λp hp=>?_;simp only[in8,Xq,List.not_mem_nil,or_false] at hp;rcases hp with rfl|rfl|rfl|rfl|rfl<;>exact⟨_,rfl,rfl,rfl⟩
def C8(n:Nat)(i:Int):List (Nat×SV):=[(0,.g 0 0 2 0 (n+1)),(1,.v (.int .i64 i)),(2,.s 1 2 0 1 1),(7,.il .i64 1),(8,i64 n)]
theorem xm(a:Addr)(k:Nat):(a.add k).block=a.block:=by unfold Addr.add;split<;>rfl
theorem O4(hE:Closed cx.P cx.co E)(hk:b.kind≠.early){f:Nat->List SV}(A:AtR cx 95 w0 XN 2 [] ⟨rL (C8 n i),j9 (n+1) f e,2,0,[],[]⟩ ρ a W)(h0:0<=i)(h1:i<n)(hn:(n:Int)<=1000000)(h:∀a',AtR cx 95 w0 XN 2 [] ⟨rL (C8 n i),j9 (n+1) f e,2,0,[],[]⟩ ρ a' W->E (G (b.at a' (.code X::k)) cs) W):E (G (b.at a (.code (.seq (.region 14 S3 false) (.cond (.tmp 68) X .skip))::k)) cs) W:=by
 refine gL hE ?_;refine aR hE _ _ 8 rfl (by kernel_rfl) ?_;refine iN (C:=cx) (d:=61) (t:=2) hE hk (by kernel_rfl) A (by decide) rfl rfl λa1 A1=>?_;refine iN (C:=cx) (d:=62) (t:=0) hE hk (by kernel_rfl) A1 (by decide) rfl rfl λa2 A2=>?_;refine iN (C:=cx) (d:=63) (t:=1) hE hk (by kernel_rfl) A2 (by decide) rfl rfl λa3 A3=>?_;refine iN (C:=cx) (d:=64) (t:=7) hE hk (by kernel_rfl) A3 (by decide) rfl rfl λa4 A4=>?_;refine BK (C:=cx) (d:=65) (op:=.add) (t:=3) (yt:=3) (x:=63) (y:=64) hE hk (by kernel_rfl) A4 (by decide) rfl rfl rfl rfl rfl rfl (.int .i64 (i+1)) (λw=>?_) λa5 A5=>?_;show (Op.intArith .add .i64 i 1).run _ w=_;simp[Op.intArith,IntKind.wrap_i64];omega;obtain⟨inf,z,ht,XX,hs,-⟩:=bV (C:=cx) (t:=26) (show fe cx 26=some _ from rfl);obtain⟨x,⟨l,l1,l2,l3,l4,a',rfl,l5⟩,hx⟩:=A5.slot (t:=62) rfl rfl;obtain⟨y,y1,hy⟩:=A5.slot (t:=65) rfl rfl;obtain rfl:y=_:=y1;obtain⟨l',k1,k2,k3,k4,k5⟩:=A5.X'.blk 0 _ (show look (j9 (n+1) f e) 0=some _ from rfl);rw[l1] at k1;obtain rfl:=Oi k1;have Ym:l.cap≠0:=by omega
 obtain⟨bl,m1,m2⟩:=l5 (by omega);subst m2;obtain⟨bl',u,n1,n2,n3,-⟩:=k5 Ym;rw[m1] at n1;obtain rfl:bl=bl':=by injection n1 with n1;injection n1
 have Z4:∀W1,Rv W W1->∀ty pos after,(execOp a5.eval ⟨some 66,.slice 26 (.tmp 62) (some (.tmp 65)) none none,ty,pos,after,none⟩).run cx.P W1=.ok (.value (.slice (if l.cap-0=(i+1).toNat then some ⟨bl,0*2,none⟩ else(some ⟨bl,0*2,none⟩:Option Addr).map (·.add ((i+1).toNat*inf.size))) (n+1-(i+1).toNat) (l.cap-0-(i+1).toNat))) W1:=λW1 _ ty pos after=>
  cO (l:=(i+1).toNat) (h:=n+1) (m:=l.cap-0) hx ht XX (aL (.inl ⟨rfl,rfl⟩) (.inl ⟨rfl,rfl,rfl⟩) (.inr ⟨.i64,i+1,by rw[<-hy];rfl,by omega,by omega,rfl⟩))
 have XW:¬l.cap-0=(i+1).toNat:=by omega
 rw[Xk XW] at Z4;simp only[Option.map_some] at Z4;refine vr (C:=cx) (d:=66) (op:=.slice 26 (.tmp 62) (some (.tmp 65)) none none) hE hk (by kernel_rfl) A5 (by decide) (.v _) _ rfl (λ_ _ _=>⟨aa (oA _ _ _ _ _) λ_=>trivial,λW1 r=>Z4 W1 r _ _ _⟩) λa6 A6=>?_;obtain⟨v,⟨bv,v1,rfl⟩,hv⟩:=A6.slot (t:=61) rfl rfl;obtain⟨y2,z1,hy2⟩:=A6.slot (t:=66) rfl rfl;obtain rfl:y2=_:=z1;obtain⟨bv',vs,p1,p2,p3,p4,p5⟩:=A6.X'.blk 1 _ (show look (j9 (n+1) f e) 1=some _ from rfl);rw[v1] at p1;obtain rfl:=Oi p1;have hbb:bv≠bl:=λe=>by have:=A6.X'.hb.own 1 0 bv (.inl v1) (.inr (.inl ⟨0,l,0,l1,l2,Ym,by rw[m1,e]⟩));cases this
 have hO:Zl S3 6=some (some 67,.call ⟨.value (.func 81),#[.tmp 61,.tmp 66],#[26,26]⟩,none):=by kernel_rfl
 obtain⟨ty,pos,after,ho⟩:=dO hO;have hexec:execOp a6.eval ⟨some 67,.call ⟨.value (.func 81),#[.tmp 61,.tmp 66],#[26,26]⟩,ty,pos,after,none⟩=callFunc 81 #[a6.eval (.tmp 61),a6.eval (.tmp 66)]:=by simp[execOp,resolve,invoke];rfl
 refine VG (P:=cx.P) (v:=.bool false) hE hk ho rfl (λW1 r S R w hview=>?_) ?_;have hul:0<u.toArray.size:=(by show 0<u.length;rw[n3];omega);have hvl:0<vs.toArray.size:=(by have:=aB p2;show 0<vs.length;rw[this];exact Nat.succ_pos _);have w1:=hview.mine (r.heap bl _ n2) hul;have w2:=hview.mine (r.heap bv _ p3) hvl;have Z1:=rR (P:=cx.P) w 26 4 39 ht 0 inf XX ⟨bv,0,none⟩ ((⟨bl,0*2,none⟩:Addr).add ((i+1).toNat*inf.size)) 1 1 (n+1-(i+1).toNat) (l.cap-0-(i+1).toNat) (by rw[xm];exact hbb) w2 (by rw[xm];exact w1) hul (#[].push ⟨.mark (.extern 81),false,true⟩);rw[hexec,hv,hy2];refine⟨?_,_,vS Tryz.func81 (by kernel_rfl) (by kernel_rfl) (by kernel_rfl) (e:=Extern.SlicesOverlaps.overlaps #[26,26] #[4]) (by kernel_rfl) _ w Z1⟩;rw[Sem.runT_eq] at Z1;rw[run_callFunc_extern Tryz.func81 (by kernel_rfl) (by kernel_rfl) (by kernel_rfl) (e:=Extern.SlicesOverlaps.overlaps #[26,26] #[4]) (by kernel_rfl),(F7 Z1).1];rfl;have A7:=A6.put (d:=67) (by decide) (sv:=.v (.bool false)) (v:=.bool false) rfl;obtain⟨y3,q1,hy3⟩:=A7.slot (t:=67) rfl rfl;obtain rfl:y3=_:=q1;refine vr (C:=cx) (d:=68) (op:=.unOp .not 4 (.tmp 67)) hE hk (by kernel_rfl) A7 (by decide) (.v (.bool true)) (.bool true) rfl (λ_ _ _=>⟨aa (zQ _ _) λ_=>trivial,λW1 _=>AO (by rw[hy3];rfl)⟩) λa8 A8=>?_;obtain⟨y4,q2,hy4⟩:=A8.slot (t:=68) rfl rfl;obtain rfl:y4=_:=q2;refine aw hE (Dh hE hy4 (h a8 ?_));refine A8.tell (C8 n i) λp hp=>?_;simp only[C8,Xq,List.not_mem_nil,or_false] at hp;rcases hp with rfl|rfl|rfl|rfl|rfl<;>exact⟨_,rfl,rfl,rfl⟩
end
theorem AtR.later{PP:Program}{C:Cx PP}{Ds:List Nat}{W W1:World}(A:AtR C nt w0 XN nm0 Ds st ρ a W)(r:Rv W W1):AtR C nt w0 XN nm0 Ds st ρ a W1:=by obtain⟨w1,Yj,m1,m2,hR⟩:=A.ex;exact⟨⟨w1,Yj,m1,m2,⟨hR.base.same (dst:=none) (x:=undef) ⟨r.os,r.tape,r.output,r.size,λb hb=>r.same hb⟩,hR.rgs,hR.cw⟩⟩,A.nd⟩
def ic9:Code:=cn1 (X3 (X6 ic8))
def io9:Array Oper:=Zj (X6 ic9)
theorem Tf:ic9=.seq (.region 9 io9 false) (X3 ic9):=by kernel_rfl
def in9(n j:Nat):List (Nat×SV):=[(9,.g 2 2 2 0 (n+1)),(0,.g 0 0 2 0 n),(1,.v (.int .i64 j)),(2,.s 1 2 0 1 1),(7,.il .i64 1),(8,i64 n)]
def IX:List SV:=[.il .i64 0,.v (.slice none 0 0)]
section
variable {W:World}{E:Goroutine->World->Prop}
theorem KP(hE:Closed cx.P cx.co E)(hk:b.kind≠.early){f:Nat->List SV}(A:AtR cx 95 w0 XN 2 [] ⟨rL (in8 n (j:Nat)),j9 n f e,2,0,[],[]⟩ ρ a W)(hq:ρ.v 0=some q)(Ym:q.cap<n+1)(h1:j<n)(hn:n<=100000)(h:∀XM a' W',AtR cx 95 w0 XN 2 [] ⟨rL (in9 n j),(2,.lst 2 2 (n+1) (λx=>bif Nat.blt x j then f x else IX) 39)::j9 n f e,3,0,[],[]⟩ XM a' W'->E (G (b.at a' (.code X::k)) cs) W'):E (G (b.at a (.code (.seq (.region 9 io9 false) X)::k)) cs) W:=by
 obtain⟨m,hm⟩:∃m,j+m=n+1:=⟨n+1-j,by omega⟩
 refine gL hE ?_;refine aR hE _ _ 10 rfl (by kernel_rfl) ?_;refine iN (C:=cx) (d:=32) (t:=0) hE hk (by kernel_rfl) A (by decide) rfl rfl λa1 A1=>?_;refine iN (C:=cx) (d:=33) (t:=1) hE hk (by kernel_rfl) A1 (by decide) rfl rfl λa2 A2=>?_;obtain⟨inf,z,ht,XX,hs,-⟩:=bV (C:=cx) (t:=26) (show fe cx 26=some _ from rfl);obtain⟨x,⟨l,l1,l2,l3,l4,a',rfl,l5⟩,hx⟩:=A2.slot (t:=32) rfl rfl;obtain⟨y,y1,hy⟩:=A2.slot (t:=33) rfl rfl;obtain rfl:y=_:=y1;rw[hq] at l1;obtain rfl:=Oi l1;have hc0:q.cap≠0:=by omega
 obtain⟨bl,m1,m2⟩:=l5 (by omega);subst m2;have Z4:∀W1,Rv W W1->∀ty pos after,(execOp a2.eval ⟨some 34,.slice 26 (.tmp 32) none (some (.tmp 33)) none,ty,pos,after,none⟩).run cx.P W1=.ok (.value (.slice (if q.cap-0=0 then some ⟨bl,0*2,none⟩ else(some ⟨bl,0*2,none⟩:Option Addr).map (·.add (0*inf.size))) (j-0) (q.cap-0-0))) W1:=λW1 _ ty pos after=>
  cO (l:=0) (h:=j) (m:=q.cap-0) hx ht XX (aL (.inl ⟨rfl,rfl⟩) (.inr ⟨.i64,j,by rw[<-hy];rfl,by omega,by omega,by omega⟩) (.inl ⟨rfl,rfl⟩))
 rw[Xk (by omega)] at Z4;refine vr (C:=cx) (d:=34) (op:=.slice 26 (.tmp 32) none (some (.tmp 33)) none) hE hk (by kernel_rfl) A2 (by decide) (.g 0 0 2 0 j) _ ⟨q,hq,l2,by omega,l4,_,rfl,λ_=>⟨bl,m1,by simp[Addr.add]⟩⟩ (λ_ _ _=>⟨aa (oA _ _ _ _ _) λ_=>trivial,λW1 r=>Z4 W1 r _ _ _⟩) λa3 A3=>?_;refine iN (C:=cx) (d:=35) (t:=8) hE hk (by kernel_rfl) A3 (by decide) rfl rfl λa4 A4=>?_;refine iN (C:=cx) (d:=36) (t:=7) hE hk (by kernel_rfl) A4 (by decide) rfl rfl λa5 A5=>?_;refine BK (C:=cx) (d:=37) (op:=.add) (t:=3) (yt:=3) (x:=35) (y:=36) hE hk (by kernel_rfl) A5 (by decide) rfl rfl rfl rfl rfl rfl (.int .i64 ((n:Int)+1)) (λw=>?_) λa6 A6=>?_;show (Op.intArith .add .i64 (n:Int) 1).run _ w=_;simp[Op.intArith,IntKind.wrap_i64];omega;refine iN (C:=cx) (d:=38) (t:=1) hE hk (by kernel_rfl) A6 (by decide) rfl rfl λa7 A7=>?_;refine BK (C:=cx) (d:=39) (op:=.sub) (t:=3) (yt:=3) (x:=37) (y:=38) hE hk (by kernel_rfl) A7 (by decide) rfl rfl rfl rfl rfl rfl (.int .i64 (m:Nat)) (λw=>?_) λa8 A8=>?_;show (Op.intArith .sub .i64 ((n:Int)+1) j).run _ w=_;simp[Op.intArith,IntKind.wrap_i64];omega;obtain⟨u,u1,hu⟩:=A8.slot (t:=34) rfl rfl;obtain⟨y2,u2,hy2⟩:=A8.slot (t:=39) rfl rfl;obtain rfl:y2=_:=u2;have hO:Zl io9 8=some (some 40,.call ⟨.builtin .append,#[.tmp 34,.tmp 39],#[26,3]⟩,none):=by kernel_rfl
 obtain⟨ty,pos,after,ho⟩:=dO hO;refine Bd hE hk ho rfl (aa (m:=Builtin.append_ _ _ _) (wz _ _ _) λ_=>trivial) λW1 r=>?_;have A9:=A8.later r;have hfree:ρ.v 2=none:=by obtain⟨_,_,_,_,hR⟩:=A9.ex;exact hR.base.mem.free.2
 obtain⟨y3,W2,r1,XM,r2,r3,r4⟩:=BE (C:=cx) (nm:=2) (ty:=ty) (kn:=.i64) A9.X' hfree (t:=26) (tn:=3) (show fe cx 26=some _ from rfl) (by kernel_rfl) (by decide) (by rfl) (l:=0) (ep:=0) (N:=n) (h:=f) (show look (j9 n f e) 0=some _ from rfl) hq (i:=j) (k:=m) (by omega) (by omega) (by omega) ⟨Nat.le_trans (by omega:j+m<=100001) (by decide),by rw[hm];show (n+1)*32<=_;omega⟩ u1;refine⟨y3,W2,?_,?_⟩;simp only[execOp,resolve,invoke,builtin,Xz,Xy,Xx,List.map_toArray,List.map_cons,List.map_nil,hu,hy2,r1];rw[hm] at r3 r4;have A10:=A9.eff (sb:=.lst 2 2 (n+1) (λx=>bif Nat.blt x j then f x else IX) 39) r2 r3;have A11:=A10.put (d:=40) (by decide) (sv:=.g 2 2 2 0 (n+1)) r4;refine ML (C:=cx) (d:=9) (t:=40) hE hk (by kernel_rfl) A11 (by decide) rfl rfl λa12 A12=>?_;refine aw hE (h XM a12 W2 ?_);refine A12.tell (in9 n j) λp hp=>?_;simp only[in9,Xq,List.not_mem_nil,or_false] at hp;rcases hp with rfl|rfl|rfl|rfl|rfl|rfl<;>exact⟨_,rfl,rfl,rfl⟩
end
set_option maxHeartbeats 2000000
def hI:How:=⟨[11,15],[],[],0⟩
def qm(j:Nat)(g:Nat->Raw)(e:Raw):Nat->Raw:=λx=>bif Nat.blt x j then g x else bif Nat.beq x j then e else g (x-1)
def Vm(nm m N n j:Nat)(g:Nat->Raw)(e:Raw)(x:Ex)(st:St):Prop:=x=.ret∧qy cx Tryz.f55.results.toList st λv=>v=.g m m 2 0 (n+1)∧look st.H 1=some (.lay e.cells 39)∧∃F,look st.H m=some (.lst m 2 N F 39)∧∀x,x<n+1->F x=(qm j g e x).cells
theorem O7(n j:Nat)(g:Nat->Raw)(e:Raw)(hj:j<n)(hn:n<=100000):ev (C:=cx) iG 95 2 iI (cd ([]:List (Y0 cx))) hI (X3 ic9) ⟨rL (in9 n j),(2,.lst 2 2 (n+1) (λx=>bif Nat.blt x j then(g x).cells else IX) 39)::j9 n (λx=>(g x).cells) e,3,0,[],[]⟩ (Vm 2 2 (n+1) n j g e):=by
 have q1:(0:Int)<=(j:Int)∧(j:Int)<=((n+1:Nat):Int):=⟨by omega,by omega⟩
 refine Ai q1 ?_;have al:∀(x:Nat),dD e.cells (bif Nat.blt x j then(g x).cells else IX):=λx=>by
  cases Nat.blt x j with
  | true=>exact(by repeat' first|exact trivial|exact rfl|apply Ai|intro)
  | false=>exact(by repeat' first|exact trivial|exact rfl|apply Ai|intro)
 refine Ai ⟨by show 1<=n+1-(j:Int).toNat;omega,λx _ _=>al x⟩ ?_;have q3:Yd ((j:Int)+1):=by unfold Yd;omega
 refine Ai q3 ?_;have q4:(0:Int)<=(j:Int)+1∧(j:Int)+1<=((n+1:Nat):Int):=⟨by omega,by omega⟩
 refine Ai q4 ?_;have q5:(0:Int)<=(j:Int)∧(j:Int)<=(n:Int):=⟨by omega,by omega⟩
 refine Ai q5 ?_;have q6:min (n-(j:Int).toNat) (n+1-((j:Int)+1).toNat)<=n+1-((j:Int)+1).toNat:=Nat.min_le_right _ _;refine Ai ⟨q6,(by repeat' first|exact trivial|exact rfl|apply Ai|intro)⟩ ?_;refine⟨rfl,rfl,rfl,_,rfl,λx hx=>?_⟩;show jnL (mE (0+((j:Int)+1).toNat) (min (n-(j:Int).toNat) (n+1-((j:Int)+1).toNat)) x) (g (0+(j:Int).toNat+(x-(0+((j:Int)+1).toNat)))).cells (jnL (mE (0+(j:Int).toNat) 1 x) e.cells (bif Nat.blt x j then(g x).cells else IX))=(qm j g e x).cells;have hmin:min (n-(j:Int).toNat) (n+1-((j:Int)+1).toNat)=n-j:=by omega
 rw[hmin];unfold qm;rcases Nat.lt_or_ge x j with h1|h1;have hb:Nat.blt x j=true:=(by rw[Nat.blt_eq];exact h1);rw[dH (by omega),dH (by omega),hb];rfl;have hb:Nat.blt x j=false:=by
  cases hb:Nat.blt x j with
  | false=>rfl
  | true=>rw[Nat.blt_eq] at hb;omega
 rw[hb];rcases Nat.lt_or_ge j x with h2|h2
 ·have hc:Nat.beq x j=false:=by
   cases hc:Nat.beq x j with
   | false=>rfl
   | true=>have:=Nb hc;omega
  rw[ir (by omega) (by omega),dH (by omega),hc,show 0+(j:Int).toNat+(x-(0+((j:Int)+1).toNat))=x-1 by omega];rfl
 obtain rfl:x=j:=by omega
 rw[dH (by omega),ir (by omega) (by omega),Xv];rfl
def WJ:Code:=cn1 (X3 (X6 Hm))
def spF(n:Nat)(g:Nat->Raw)(u v:Value):Nat->List SV:=λx=>bif Nat.blt x n then(g x).cells else [.v u,.v v]
theorem oh{u v:Value}(h:x<n):spF n g u v x=(g x).cells:=by
 unfold spF;have hb:Nat.blt x n=true:=by rw[Nat.blt_eq];exact h
 rw[hb];rfl
theorem O8(n j:Nat)(g:Nat->Raw)(e:Raw)(u v:Value)(hj:j<n)(hn:n<=100000):ev (C:=cx) iG 95 2 iI (cd ([]:List (Y0 cx))) hI WJ ⟨rL (C8 n (j:Nat)),j9 (n+1) (spF n g u v) e,2,0,[],[]⟩ (Vm 2 0 (n+1) n j g e):=by
 have q3:Yd ((j:Int)+1):=by unfold Yd;omega
 refine Ai q3 ?_;have q4:(0:Int)<=(j:Int)+1∧(j:Int)+1<=((n+1:Nat):Int):=⟨by omega,by omega⟩
 refine Ai q4 ?_;have q5:(0:Int)<=(j:Int)∧(j:Int)<=((n+1:Nat):Int):=⟨by omega,by omega⟩
 refine Ai q5 ?_;have hmin:min (n+1-(j:Int).toNat) (n+1-((j:Int)+1).toNat)=n-j:=by omega
 have q6:min (n+1-(j:Int).toNat) (n+1-((j:Int)+1).toNat)<=n+1-((j:Int)+1).toNat:=Nat.min_le_right _ _;refine Ai ⟨q6,λx hx hb=>?_⟩ ?_
 ·replace hx:x<n+1:=hx;replace hb:mE (0+((j:Int)+1).toNat) (min (n+1-(j:Int).toNat) (n+1-((j:Int)+1).toNat)) x=false:=hb;show dD (spF n g u v (0+(j:Int).toNat+(x-(0+((j:Int)+1).toNat)))) (spF n g u v x);rw[hmin] at hb;have hxj:x<=j:=(by rcases Nat.lt_or_ge j x with h|h;rw[ir (by omega) (by omega)] at hb;cases hb;exact h);rw[oh (by omega),oh (by omega)];exact(by repeat' first|exact trivial|exact rfl|apply Ai|intro)
 refine Ai q5 ?_;refine Ai ⟨by show 1<=n+1-(j:Int).toNat;omega,λx hx hb=>?_⟩ ?_
 ·replace hx:x<n+1:=hx;replace hb:mE (0+(j:Int).toNat) 1 x=false:=hb;show dD e.cells (jnL (mE (0+((j:Int)+1).toNat) (min (n+1-(j:Int).toNat) (n+1-((j:Int)+1).toNat)) x) (spF n g u v (0+(j:Int).toNat+(x-(0+((j:Int)+1).toNat)))) (spF n g u v x));rw[oh (x:=0+(j:Int).toNat+(x-(0+((j:Int)+1).toNat))) (by omega)];exact(by repeat' first|exact trivial|exact rfl|apply Ai|intro)
 refine⟨rfl,rfl,rfl,_,rfl,λx hx=>?_⟩;show jnL (mE (0+(j:Int).toNat) 1 x) e.cells (jnL (mE (0+((j:Int)+1).toNat) (min (n+1-(j:Int).toNat) (n+1-((j:Int)+1).toNat)) x) (spF n g u v (0+(j:Int).toNat+(x-(0+((j:Int)+1).toNat)))) (spF n g u v x))=(qm j g e x).cells;rw[hmin];unfold qm;rcases Nat.lt_or_ge x j with h1|h1;have hb:Nat.blt x j=true:=(by rw[Nat.blt_eq];exact h1);rw[dH (by omega),dH (by omega),hb,oh (x:=0+(j:Int).toNat+(x-(0+((j:Int)+1).toNat))) (by omega),oh (x:=x) (by omega)];rfl;have hb:Nat.blt x j=false:=by
  cases hb:Nat.blt x j with
  | false=>rfl
  | true=>rw[Nat.blt_eq] at hb;omega
 rw[hb];rcases Nat.lt_or_ge j x with h2|h2
 ·have hc:Nat.beq x j=false:=by
   cases hc:Nat.beq x j with
   | false=>rfl
   | true=>have:=Nb hc;omega
  rw[dH (by omega),ir (by omega) (by omega),hc,show 0+(j:Int).toNat+(x-(0+((j:Int)+1).toNat))=x-1 by omega,oh (x:=x-1) (by omega)];rfl
 obtain rfl:x=j:=by omega
 rw[ir (by omega) (by omega),Xv];rfl
def S5(n:Nat)(j:Nat)(f:Nat->List SV)(e:Raw)(x:Ex)(st:St):Prop:=x=.normal∧vv st 0 (.g 0 0 2 0 (n+1))∧vv st 1 (.v (.int .i64 (j:Nat)))∧vv st 2 (.s 1 2 0 1 1)∧vv st 7 (.il .i64 1)∧vv st 8 (i64 n)∧st.H=j9 (n+1) f e∧st.nm=2
theorem KQ(n j:Nat)(f:Nat->List SV)(e:Raw)(hn:n<=100000):ev (C:=cx) iG 95 2 iI (cd ([]:List (Y0 cx))) hI (X6 K5) ⟨rL (in8 n (j:Nat)),j9 (n+1) f e,2,0,[],[]⟩ (S5 n j f e):=by
 have q0:Yd ((n:Int)+1):=by unfold Yd;omega
 refine Ai q0 ?_;have q1:(0:Int)<=(n:Int)+1∧0+((n:Int)+1).toNat<=n+1:=⟨by omega,by omega⟩
 refine Ai q1 ?_;exact⟨rfl,⟨_,rfl,(by show SV.g 0 0 2 0 ((n:Int)+1).toNat=_;rw[show ((n:Int)+1).toNat=n+1 by omega]),rfl⟩,⟨_,rfl,rfl,rfl⟩,⟨_,rfl,rfl,rfl⟩,⟨_,rfl,rfl,rfl⟩,⟨_,rfl,rfl,rfl⟩,rfl,rfl⟩
def S4(n:Nat)(g:Nat->Raw)(e:Raw)(v:SV)(H:aU)(_:Nat):Prop:=v=.g 0 2 2 0 (n+1)∧look H 1=some (.lay e.cells 39)∧∃F,look H 0=some (.lst 2 2 (n+1) F 39)∧∀x,x<n+1->F x=(qm n g e x).cells
theorem O9(n:Nat)(g:Nat->Raw)(e:Raw)(hn:n<=100000):ev (C:=cx) [] 95 2 (jB (C:=cx) [] [] 0) (cd ([]:List (Y0 cx))) hI iB ⟨bw 0 [.g 0 0 2 0 n,.v (.int .i64 (n:Nat)),.s 1 2 0 1 1],j9 n (λx=>(g x).cells) e,2,0,[],[]⟩ (rT cx Tryz.f55.results.toList (S4 n g e)):=by
 have q0:(0:Int)<=(n:Int)∧(n:Int)<=(n:Int):=⟨by omega,by omega⟩
 refine Ai q0 ?_;refine Ai (λhc=>?_) (λhc=>?_)
 ·have Yo:gQ (n+1) 32:=⟨Nat.le_trans (by omega:n+1<=100001) (by decide),by omega⟩
  refine Ai ⟨Yo,(by repeat' first|exact trivial|exact rfl|apply Ai|intro)⟩ ?_;refine⟨rfl,rfl,_,rfl,λx hx=>?_⟩;show jnL (Nat.ble n x) e.cells (g x).cells=(qm n g e x).cells;unfold qm;rcases Nat.lt_or_ge x n with h1|h1
  ·have hb:Nat.blt x n=true:=(by rw[Nat.blt_eq];exact h1);have hc:Nat.ble n x=false:=by
    cases hc:Nat.ble n x with
    | false=>rfl
    | true=>have:=F4 hc;omega
   rw[hb,hc];rfl
  obtain rfl:x=n:=(by omega);have hb:Nat.blt x x=false:=by
   cases hb:Nat.blt x x with
   | false=>rfl
   | true=>rw[Nat.blt_eq] at hb;omega
  rw[hb,Xv,Nat.ble_eq_true_of_le (F2 _)];rfl
 have hc:decide ((n:Int)=(n:Int))=false:=hc;have:=Xg hc;exact P' rfl this
set_option maxHeartbeats 2000000
def O6(nm m N n j:Nat)(g:Nat->Raw)(e:Raw)(v:SV)(H:aU):Prop:=v=.g m m 2 0 (n+1)∧look H 1=some (.lay e.cells 39)∧∃F,look H m=some (.lst m 2 N F 39)∧∀x,x<n+1->F x=(qm j g e x).cells
theorem C4{W:World}(hH:YH cx (j9 n (λx=>(g x).cells) e) YA W)(X5:∀n b,YA.n n=some b->n<2)(XP:∀e l,YA.v e=some l->e<2∧l.o<2)(XQ:∀m i l,YA.k m i=some l->m<2)(YY:∀b,¬YA.o b)(XY:au YA [.g 0 0 2 0 n,.v (.int .i64 (j:Nat)),.s 1 2 0 1 1] vs)(hq:YA.v 0=some q)(Ym:q.cap<n+1)(hj:j<n)(hn:n<=100000) :
  bj Tryz.prog false 55 vs.toArray W λe' W'=>∃v val H' Yl XM,e'=.returned val∧O6 2 2 (n+1) n j g e v H'∧Mem cx W YA.YE Yl XM W'∧(∀n sb,look H' n=some sb->cS XM W' n sb)∧den XM v val:=by
 intro E hE cs Zm;refine iC hE Tryz.func55 (c:=iB) (by kernel_rfl) Zm ?_;intro k h3;have hb:(c7 55).kind≠.early:=by decide
 have YL:(c7 55).roundOf=none:=rfl;have hIn:=cX (C:=cx) (Γ:=iG) (Fs:=[]) follows 0;have hnt:Tryz.f55.ntmps=95:=by kernel_rfl
 rw[hnt];have A0:=vg (C:=cx) (n:=95) (nm:=2) (show ([.g 0 0 2 0 n,.v (.int .i64 (j:Nat)),.s 1 2 0 1 1]:List SV).length<=95 from(by decide:3<=95)) hH X5 XP XQ XY;have p0:=wO n n (j:Nat) (λx=>(g x).cells) e (by omega) (by omega);refine dh (Γ:=iG) (I:=iI) (inls:=cd ([]:List (Y0 cx))) (h:=ak) hE hIn follows hb YL Ro rfl (by kernel_rfl) A0 p0 (λ_ _ h=>h.1) λst1 Yj a1 W1 he1 A1=>?_;refine dh (h:=ak) hE hIn follows hb YL K4 rfl (by kernel_rfl) A1 he1 (λ_ _ h=>h.1) λst2 Y1 a2 W2 he2 A2=>?_;refine dh (h:=ak) hE hIn follows hb YL K3 rfl (by kernel_rfl) A2 he2 (λ_ _ h=>h.1) λst3 ρ3 a3 W3 he3 A3=>?_;refine dh (h:=ak) hE hIn follows hb YL K2 rfl (by kernel_rfl) A3 he3 (λ_ _ h=>h.1) λst4 ρ4 a4 W4 he4 A4=>?_;refine dh (h:=ak) hE hIn follows hb YL K1 rfl (by kernel_rfl) A4 he4 (λ_ _ h=>h.1) λst5 ρ5 a5 W5 he5 A5=>?_;rw[K0];refine gL hE (ew (h:=ak) hE hIn follows hb YL (by kernel_rfl) A5 he5 λx6 st6 ρ6 a6 W6 hk6 A6=>?_);obtain⟨rfl,s0,s1,s2,s7,s8,sH,sn⟩:=hk6;refine⟨trivial,?_⟩;have A7:=A6.tell (in8 n (j:Nat)) λp hp=>by simp only[in8,Xq,List.not_mem_nil,or_false] at hp;rcases hp with rfl|rfl|rfl|rfl|rfl<;>assumption
 rw[sH,sn] at A7;have hq7:ρ6.v 0=some q:=A7.le.v _ _ hq;rw[KZ];refine gL hE (E6 hE hb A7 hq7 (by omega) λa8 A8=>?_);rw[Xj (show (q.cap:Int)<(n:Int)+1 by omega)];show E (G ((c7 55).at a8 (.code ic9::_)) cs) W6;rw[Tf];refine KP hE hb A8 hq7 Ym hj hn λρ9 a9 W9 A9=>?_;refine ew (h:=hI) hE hIn follows hb YL (by kernel_rfl) A9 (O7 n j g e hj hn) λx10 st10 ρ10 a10 W10 hk10 A10=>?_;obtain⟨rfl,hk10⟩:=hk10;refine⟨trivial,λtodo=>?_⟩;refine pF (K:=λv H _=>O6 2 2 (n+1) n j g e v H) hE Tryz.func55 hk10 (λv W' fr ⟨v',H',Yl,XM,q1,q2,q3,q4⟩ hfn hl=>?_) todo (XN:=YA.YE) (λb h=>by cases h) A10;exact Zm (.returned v) W' fr ⟨v',v,H',Yl,XM,rfl,q1,q2,q3,q4⟩ hfn hl
theorem C5{W:World}{u v:Value}(hH:YH cx (j9 (n+1) (spF n g u v) e) YA W)(X5:∀n b,YA.n n=some b->n<2)(XP:∀e l,YA.v e=some l->e<2∧l.o<2)(XQ:∀m i l,YA.k m i=some l->m<2)(YY:∀b,¬YA.o b)(XY:au YA [.g 0 0 2 0 n,.v (.int .i64 (j:Nat)),.s 1 2 0 1 1] vs)(hq:YA.v 0=some q)(Ym:n+1<=q.cap)(hj:j<n)(hn:n<=100000) :
  bj Tryz.prog false 55 vs.toArray W λe' W'=>∃r val H' Yl XM,e'=.returned val∧O6 2 0 (n+1) n j g e r H'∧Mem cx W YA.YE Yl XM W'∧(∀n sb,look H' n=some sb->cS XM W' n sb)∧den XM r val:=by
 intro E hE cs Zm;refine iC hE Tryz.func55 (c:=iB) (by kernel_rfl) Zm ?_;intro k h3;have hb:(c7 55).kind≠.early:=by decide
 have YL:(c7 55).roundOf=none:=rfl;have hIn:=cX (C:=cx) (Γ:=iG) (Fs:=[]) follows 0;have hnt:Tryz.f55.ntmps=95:=by kernel_rfl
 rw[hnt];have A0:=vg (C:=cx) (n:=95) (nm:=2) (show ([.g 0 0 2 0 n,.v (.int .i64 (j:Nat)),.s 1 2 0 1 1]:List SV).length<=95 from(by decide:3<=95)) hH X5 XP XQ XY;have p0:=wO n (n+1) (j:Nat) (spF n g u v) e (by omega) (by omega);refine dh (Γ:=iG) (I:=iI) (inls:=cd ([]:List (Y0 cx))) (h:=ak) hE hIn follows hb YL Ro rfl (by kernel_rfl) A0 p0 (λ_ _ h=>h.1) λst1 Yj a1 W1 he1 A1=>?_;refine dh (h:=ak) hE hIn follows hb YL K4 rfl (by kernel_rfl) A1 he1 (λ_ _ h=>h.1) λst2 Y1 a2 W2 he2 A2=>?_;refine dh (h:=ak) hE hIn follows hb YL K3 rfl (by kernel_rfl) A2 he2 (λ_ _ h=>h.1) λst3 ρ3 a3 W3 he3 A3=>?_;refine dh (h:=ak) hE hIn follows hb YL K2 rfl (by kernel_rfl) A3 he3 (λ_ _ h=>h.1) λst4 ρ4 a4 W4 he4 A4=>?_;refine dh (h:=ak) hE hIn follows hb YL K1 rfl (by kernel_rfl) A4 he4 (λ_ _ h=>h.1) λst5 ρ5 a5 W5 he5 A5=>?_;rw[K0];refine gL hE (ew (h:=ak) hE hIn follows hb YL (by kernel_rfl) A5 he5 λx6 st6 ρ6 a6 W6 hk6 A6=>?_);obtain⟨rfl,s0,s1,s2,s7,s8,sH,sn⟩:=hk6;refine⟨trivial,?_⟩;have A7:=A6.tell (in8 n (j:Nat)) λp hp=>by simp only[in8,Xq,List.not_mem_nil,or_false] at hp;rcases hp with rfl|rfl|rfl|rfl|rfl<;>assumption
 rw[sH,sn] at A7;have hq7:ρ6.v 0=some q:=A7.le.v _ _ hq;rw[KZ];refine gL hE (E6 hE hb A7 hq7 (by omega) λa8 A8=>?_);rw[Xi (show ¬(q.cap:Int)<(n:Int)+1 by omega)];show E (G ((c7 55).at a8 (.code .skip::_)) cs) W6;refine LF hE ?_;rw[Pk];refine gL hE (ew (h:=hI) hE hIn follows hb YL (by kernel_rfl) A8 (KQ n j (spF n g u v) e hn) λx9 st9 ρ9 a9 W9 hk9 A9=>?_);obtain⟨rfl,s0,s1,s2,s7,s8,sH,sn⟩:=hk9;refine⟨trivial,?_⟩;have A10:=A9.tell (C8 n (j:Nat)) λp hp=>by simp only[C8,Xq,List.not_mem_nil,or_false] at hp;rcases hp with rfl|rfl|rfl|rfl|rfl<;>assumption
 rw[sH,sn] at A10;rw[Pj];refine gL hE (O4 hE hb A10 (by omega) (by omega) (by omega) λa11 A11=>?_);refine ew (h:=hI) hE hIn follows hb YL (by kernel_rfl) A11 (O8 n j g e u v hj hn) λx12 st12 ρ12 a12 W12 hk12 A12=>?_;obtain⟨rfl,hk12⟩:=hk12;refine⟨trivial,λtodo=>?_⟩;refine pF (K:=λr H _=>O6 2 0 (n+1) n j g e r H) hE Tryz.func55 hk12 (λv W' fr ⟨v',H',Yl,XM,q1,q2,q3,q4⟩ hfn hl=>?_) todo (XN:=YA.YE) (λb h=>by cases h) A12;exact Zm (.returned v) W' fr ⟨v',v,H',Yl,XM,rfl,q1,q2,q3,q4⟩ hfn hl
theorem C6{W:World}(hH:YH cx (j9 n (λx=>(g x).cells) e) YA W)(X5:∀n b,YA.n n=some b->n<2)(XP:∀e l,YA.v e=some l->e<2∧l.o<2)(XQ:∀m i l,YA.k m i=some l->m<2)(XY:au YA [.g 0 0 2 0 n,.v (.int .i64 (n:Nat)),.s 1 2 0 1 1] vs)(hn:n<=100000) :
  bj Tryz.prog false 55 vs.toArray W λe' W'=>∃v val H' Yl XM,e'=.returned val∧S4 n g e v H' Yl∧Mem cx W YA.YE Yl XM W'∧(∀n sb,look H' n=some sb->cS XM W' n sb)∧den XM v val:=
 gM (C:=cx) (Γ:=[]) (I:=jB (C:=cx) [] [] 0) (inls:=cd ([]:List (Y0 cx))) (w0:=W) (XN:=YA) (nm:=2) hI (cX follows 0) follows Tryz.func55 (code:=iB) (by kernel_rfl) (by kernel_rfl) (by kernel_rfl) hH X5 XP XQ XY (S4 n g e) (O9 n g e hn)
end
end
end Go.Proofs.YtmdpdknpapjchaaGreatDoor
