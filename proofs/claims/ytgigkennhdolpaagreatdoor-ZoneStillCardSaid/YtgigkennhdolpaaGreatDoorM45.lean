/- Company, 50: workers.Parallel with one worker, without Systems. -/
import Derived.Test.YtgigkennhdolpaaGreatDoorM44
import Derived.Test.YtgigkennhdolpaaGreatDoorM18
import Derived.Test.YtgigkennhdolpaaGreatDoorM26
import Derived.Test.YtgigkennhdolpaaGreatDoorM4
import Derived.Test.YtgigkennhdolpaaGreatDoorM17
namespace Go.Proofs.YtgigkennhdolpaaGreatDoor
open Go.Conc Go.RowKit
open Go.Conc.Lib Go.ConcR.Gen Go.ConcN.Gen
open Go.ConcR (KK wgBlock WgAt stA smA rd wr mk DC0)
theorem L0{W4 W6:World}{b:Nat}{u v:Value}{t:TypeId}(r:Rv W4 W6)(hb:W6.heap[b]? = some (.cells #[u] t (0,0)))(hn:W4.heap.size<=b):Rv W4 (W6.setRow b #[v])∧(W6.setRow b #[v]).heap[b]? = some (.cells #[v] t (0,0)):=by
 refine⟨⟨r.os,r.tape,r.output,λbb o h=>?_⟩,setRow_heap W6 b _ _ t (0,0) hb⟩;have h6:=r.heap _ _ h;have hl:=(E'.1 h).1;have U2:¬b=bb:=by omega
 simp only[World.setRow,Array.getElem?_modify,UC U2];exact h6
section
variable {b3 b4 b9 Vf N:Nat}{b:Frame}{k:List Item}{cs:List Frame}{l:List (Nat×Value)}{Φ:Value->World->Prop}{w00:World}{S0:Nat->Prop}
set_option maxRecDepth 100000 in
set_option maxHeartbeats 2000000 in
theorem Mx(hb:b.kind≠.early)(hf:b.fn=79)(hl:Rt l b3 b4 b9 Vf){W:World}(X:∀W1,Rv W W1->Nonempty (Li W1 N b4 b3 b9 Vf))(hN:N<9223372036854775807)
  {a:Act} (hS:VH 62 a l) (hd:a.defers=[]) (hK:∀a' W',VH 62 a' l->a'.defers=[]->Rv W W'->Er Tryz.prog Φ w00 S0 (G (b.at a' (.code p19::k)) cs) W') :
  Er Tryz.prog Φ w00 S0 (G (b.at a (.code p5::k)) cs) W:=by
 refine Er.grown λW1 r1 hz=>?_;obtain⟨X⟩:=X W1 r1;have hE:=mJ (P:=Tryz.prog) (Φ:=Φ) (w00:=w00) (S0:=S0) (co:=true);have dr:∀{a1:Act} {v:Value} {d:Nat} {l':List (Nat×Value)},VH 62 a1 ((d,v)::l')->look l' d=none->VH 62 a1 l':=λh hd=>h.drop hd;obtain⟨infi,U',-⟩:=pK (t:=3) rfl;refine bZ hE _ _ Sj ?_;refine aU hE _ _ 3 rfl (by kernel_rfl) ?_;have hO0:WY o5 0=some (some 38,.makeChan 190 (.const (.int .i64 0)),none):=by kernel_rfl
 obtain⟨ty0,pos0,after0,ho0⟩:=eW hO0;refine Eb hE hb ho0 rfl (yq (e:=3) (dir:=.both)) λW2 r2=>⟨_,_,zq mB U' rfl,?_⟩
 have hc2:=qf W2 (.chan 0 #[] false 0 0 false);have ra2:=tT W2 (.chan 0 #[] false 0 0 false);have XF:W1.heap.size<=W2.heap.size:=r2.size;generalize W2.alloc (.chan 0 #[] false 0 0 false)=W3 at hc2 ra2 ⊢;generalize W2.heap.size=c at hc2 XF ⊢;have r3:=r2.trans ra2;have Wa:VH 62 (a.put (some 38) (.chan (some c))) ((38,.chan (some c))::l):=hS.put (by decide) _;show Er Tryz.prog Φ w00 S0 (G (b.at (a.put (some 38) (.chan (some c))) _) cs) W3;have Ws:(a.put (some 38) (.chan (some c))).defers=[]:=hd;generalize a.put (some 38) (.chan (some c))=a1 at Wa Ws ⊢;have hO1:WY o5 1=some (some 11,.alloc 190,none):=by kernel_rfl
 obtain⟨ty1,pos1,after1,ho1⟩:=eW hO1;refine Eb hE hb ho1 rfl uT λW4 r4=>⟨_,_,vi Tryz.zeroValue190,?_⟩
 have h11:=qf W4 (.cells (Value.chan none).cells 190);have ra4:=tT W4 (.cells (Value.chan none).cells 190);have hc4:=r4.heap _ _ hc2;have YT:=(E'.1 hc4).1;have r14:=r3.trans r4;have hs14:=r14.size;generalize W4.alloc (.cells (Value.chan none).cells 190)=W5 at h11 ra4 ⊢;have hb11:W4.heap.size=W4.heap.size:=rfl;generalize hq:W4.heap.size=UX at h11 ⊢;have WG:VH 62 (a1.put (some 11) (ptr UX)) ((11,ptr UX)::(38,.chan (some c))::l):=Wa.put (by decide) _;show Er Tryz.prog Φ w00 S0 (G (b.at (a1.put (some 11) (ptr UX)) _) cs) W5;have WS:(a1.put (some 11) (ptr UX)).defers=[]:=Ws;generalize a1.put (some 11) (ptr UX)=a2 at WG WS ⊢;have hO2:WY o5 2=some (none,.store 190 (.tmp 11) (.tmp 38),none):=by kernel_rfl
 obtain⟨ty2,pos2,after2,ho2⟩:=eW hO2;refine QO hE hb ho2 rfl (aa (kP _ _ _) λ_=>trivial) λW6 r6=>⟨_,FJ Tryz.sizeOf190 (WG.ev rfl) (r6.heap _ _ h11) (WG.ev rfl) rfl rfl,?_⟩
 obtain⟨r46,h11b⟩:=L0 (v:=.chan (some c)) (ra4.trans r6) (r6.heap _ _ h11) (by omega);generalize W6.setRow UX #[.chan (some c)]=W7 at r46 h11b ⊢;show Er Tryz.prog Φ w00 S0 (G (b.at a2 _) cs) W7;refine au hE ?_;refine bZ hE _ _ Sg ?_;refine aU hE _ _ 1 rfl (by kernel_rfl) ?_;have hO3:WY o6 0=some (some 12,.alloc 198,none):=by kernel_rfl
 obtain⟨ty3,pos3,after3,ho3⟩:=eW hO3;refine Eb hE hb ho3 rfl uT λW8 r8=>⟨_,_,vi Tryz.zeroValue198,?_⟩
 have Zt:=qf W8 (wgBlock link.tWg 0 0);have ra8:=tT W8 (wgBlock link.tWg 0 0);have hW8:W7.heap.size<=W8.heap.size:=r8.size;have h11c:=(E'.1 h11b).1;have hc7:=r46.heap _ _ hc4;have hcl7:=(E'.1 hc7).1;have r19:=((r14.trans r46).trans r8).trans ra8;show Er Tryz.prog Φ w00 S0 (G (b.at (a2.put (some 12) (ptr W8.heap.size)) _) cs) (W8.alloc (wgBlock link.tWg 0 0));have hc9:=ra8.heap _ _ (r8.heap _ _ hc7);have h119:=ra8.heap _ _ (r8.heap _ _ h11b);generalize W8.alloc (wgBlock link.tWg 0 0)=W9 at Zt r19 hc9 h119 ⊢;generalize W8.heap.size=Wg at Zt hW8 ⊢;have XU:VH 62 (a2.put (some 12) (ptr Wg)) ((12,ptr Wg)::(11,ptr UX)::l):=((WG.put (t:=12) (by decide) (ptr Wg))).sub λt u e=>by simp only[aw] at e ⊢;split at e;rename_i x;rw[UD x];exact e;rename_i m1;rw[UC m1];split at e;rename_i x;rw[UD x];exact e;rename_i m2;have n38:¬(38=t):=λx=>(by rw[<-x,hl.free 38 (by omega)] at e;cases e);rw[UC m2,UC n38];exact e
 have hd3:(a2.put (some 12) (ptr Wg)).defers=[]:=WS;generalize a2.put (some 12) (ptr Wg)=a3 at XU hd3 ⊢;refine au hE ?_;refine bZ hE _ _ Sf ?_;refine bZ hE _ _ rfl ?_;refine aU hE _ _ 2 rfl (by kernel_rfl) ?_;have lk:∀{t:Nat} {v:Value},look l t=some v->look ((12,ptr Wg)::(11,ptr UX)::l) t=some v:=λ{t v} h=>by have n2:∀z,z=11∨z=12->¬(z=t):=λz hz x=>(by rw[<-x,hl.free z (by omega)] at h;cases h);simp only[aw];rw[UC (n2 12 (by omega)),UC (n2 11 (by omega))];exact h
 refine dO (d:=39) (x:=.tmp 2) hE hb (by kernel_rfl) XU (by decide) (dG 1) (XU.ev (lk hl.n)) λa4 YV d4=>?_;refine dO (d:=40) (x:=.const (.int .i64 0)) hE hb (by kernel_rfl) YV (by decide) (dG 0) rfl λa5 Xu d5=>?_;refine au hE ?_;refine kG hE 0 _ rfl (vS hE _ rfl ?_);refine bZ hE _ _ IL ?_;refine aU hE _ _ 1 rfl (by kernel_rfl) ?_;refine uK (d:=41) (t:=3) (yt:=3) (x:=.tmp 40) (y:=.tmp 39) hE hb (by kernel_rfl) Xu (by decide) (Xu.ev rfl) (Xu.ev rfl) λa6 Zg d6=>?_;refine au hE ?_;refine bZ hE _ _ rfl ?_;refine s_cond hE 41 _ _ rfl Zg true (by rw[aw,UD rfl];rfl) ?_;refine kF hE rfl ?_;refine bZ hE _ _ rfl ?_;refine kG hE 1 _ rfl ?_;refine bZ hE _ _ rfl ?_;refine aU hE _ _ 1 rfl (by kernel_rfl) ?_;have YH:VH 62 a6 ((40,dG 0)::(39,dG 1)::(12,ptr Wg)::(11,ptr UX)::l):=Zg.drop (by simp only[aw];rw[UC (by decide),UC (by decide),UC (by decide),UC (by decide)];exact hl.free 41 (by omega));have hO9:WY o9 0=some (some 42,.call ⟨.value (.func 113),#[.tmp 12,.const (.int .i64 1)],#[198,3]⟩,none):=by kernel_rfl
 obtain⟨ty9,pos9,after9,ho9⟩:=eW hO9;refine Ec hE hb ho9 rfl (f:=113) (args:=#[ptr Wg,.int .i64 1]) (ou (x:=.func 113) rfl rfl (λargs=>jA Tryz.func113 (by kernel_rfl) args)) (λWx _=>?_) ?_;have e12:=YH.ev (t:=12) rfl;exact oI (x:=.func 113) rfl rfl Tryz.call113 (by simp[e12];rfl);exact E7 hb hf hl X hN hz r19 XF (by omega) (by omega) (by omega) (by omega) (by omega) Zt hc9 h119 YH (d6.trans (d5.trans (d4.trans hd3))) λa' W' hS' XN r'=>hK a' W' hS' XN (r1.trans r')
end
end Go.Proofs.YtgigkennhdolpaaGreatDoor
namespace Go.Proofs.YtgigkennhdolpaaGreatDoor
open Go.RowKit
def zWc:List SV:=[.il .i64 0,.v (.slice none 0 0)]
def T8(e:UZ):List SV:=[.v (.int .i64 e.iD),e.l.sv]
def S8(w:U9):Cut:=⟨Nat,λk=>k<=w.l.n,λk=>⟨[sl 2 (.p 1 0),sl 3 (.p 2 0),sl 10 w.l.sv,sl 11 (i64 w.l.n),sl 12 (i64 k)],
 [(1,.lay zWc 28),(2,.lay [.v (.int .i64 w.tick),.g 3 4 2 0 k] 28),(3,.lst 4 2 k (λi=>T8 (w.l.e i)) 42)],5,0,[],[]⟩,λk=>w.l.n-k⟩
theorem nQ{α:Type}{k i:Nat}(f:Nat->α)(h:i<k+1):f i=bif Nat.ble k i then f k else f i:=by
 cases hb:Nat.ble k i with
 | false=>rfl
 | true=>rw[show i=k by have:=L' hb;omega];rfl
set_option maxHeartbeats 2000000 in
set_option maxRecDepth 8000 in
theorem Az:∀a,aA ((λa=>[∀i,i<a.l.n->(a.l.e i).l.n<=1000,a.l.n<=1000]) a)->aH (C:=cx) [KI] [] 0 ⟨[],[],[3],1⟩ Tryz.f112 ((bs cY).enc a) λv H _=>vV ((λa=>a.sv) a) 42 H v:=by
 intro w ⟨hm,hn⟩;replace hm:∀i,i<w.l.n->(w.l.e i).l.n<=1000:=hm;replace hn:w.l.n<=1000:=hn;refine T' (S8 w) ?_;refine Ai ?_ ?_
 ·refine⟨(0:Nat),[],[.cell2 2 1 2 42],trivial,Up _,?_⟩;repeat' (first|refine Ai ?_ ?_|intro _|exact rfl)
  all_goals exact Uw ‹_<0› (F' _)
 refine fun(k:Nat) (hk:k<=w.l.n)=>?_;refine Ai (λhb=>?_) (λhb=>?_)
 ·have hb:(k:Int)<w.l.n:=Od hb;refine Ai ⟨by omega,by omega⟩ ?_;refine Ai ⟨λ_ _=>trivial,hm k (by omega)⟩ ?_;have Vv:gQ (k+1) 32:=⟨Nat.le_trans (by omega:k+1<=1001) (by decide),by omega⟩
  refine Ai ⟨Vv,?_⟩ ?_
  ·(repeat' (first|refine Ai ?_ ?_|intro _|exact rfl));all_goals exact trivial
  refine Ai (by unfold U1;omega:U1 ((k:Int)+1)) ?_;refine⟨k+1,[(4,7)],[],(by show w.l.n-(k+1)<w.l.n-k;omega),(by omega:k+1<=w.l.n),?_⟩;repeat' (first|refine Ai ?_ ?_|intro _|exact rfl)
  rename_i i hi;exact nQ (λi=>(w.l.e i).iD) hi;rename_i i hi;exact nQ (λi=>(w.l.e i).l.n) hi;rename_i i hi j hj;exact nQ (λi=>((w.l.e i).l.c j).kind) hi;rename_i i hi j hj;exact nQ (λi=>((w.l.e i).l.c j).v0) hi;rename_i i hi j hj;exact nQ (λi=>((w.l.e i).l.c j).v1) hi;rename_i i hi j hj;exact nQ (λi=>((w.l.e i).l.c j).v2) hi;rename_i i hi j hj;exact nQ (λi=>((w.l.e i).l.c j).v3) hi
 have hb:¬(k:Int)<w.l.n:=Uy hb;obtain rfl:k=w.l.n:=by omega
 repeat' (first|refine Ai ?_ ?_|intro _|exact rfl)
 exact(Uv (λq=>(w.l.e q).iD) (B' _)).symm;exact(Uv (λq=>(w.l.e q).l.n) (B' _)).symm;rename_i i hi j hj;exact(Uv (λq=>((w.l.e q).l.c j).kind) (B' _)).symm;rename_i i hi j hj;exact(Uv (λq=>((w.l.e q).l.c j).v0) (B' _)).symm;rename_i i hi j hj;exact(Uv (λq=>((w.l.e q).l.c j).v1) (B' _)).symm;rename_i i hi j hj;exact(Uv (λq=>((w.l.e q).l.c j).v2) (B' _)).symm;rename_i i hi j hj;exact(Uv (λq=>((w.l.e q).l.c j).v3) (B' _)).symm
noncomputable def Gd:UW cx:=Hw 112 Tryz.call112 (bs cY) (λa=>[∀i,i<a.l.n->(a.l.e i).l.n<=1000,a.l.n<=1000]) (λa=>a.sv) 42 (λ_=>⟨[],[],[3],1⟩) [] (λ_=>rfl) follows Tryz.func112 (by kernel_rfl) Az
def Dn(n:Nat):SV:=.rs 1 n λ_=>[yy]
def Ud(n:Nat):Cut:=⟨Nat,λk=>k<=n,λk=>⟨[sl 0 (Dn n),sl 3 (.il .i64 0),sl 9 (Dn n),sl 10 (i64 n),sl 11 (i64 k)],[],0,0,[],[]⟩,λk=>n-k⟩
def fP:SV:=.rs 3 0 λ_=>[]
def Uc(n:Nat):Cut:=⟨Nat,λk=>k<=n,λk=>⟨[sl 6 (.g 0 1 3 0 0),sl 25 (Dn n),sl 26 (i64 n),sl 27 (i64 k)],[(0,.lst 1 3 0 (λ_=>[]) 121)],2,0,[],[]⟩,λk=>n-k⟩
open Go.Conc in
theorem OR{P:Program}{co:Bool}{E:Goroutine->World->Prop}{b:Frame}{a:Act}{k:List Item}{cs:List Frame}{W:World}{n:Nat}{l:List (Nat×Value)}{ops:Array Oper}{i d:Nat}{rest:List Nat}(hE:Closed P co E)(hk:b.kind≠.early){t yt:TypeId}{x y:Operand}{p q:Int}(hO:WY ops i=some (some d,.binOp .sub t x y yt,none))(hS:VH n a l)(hd:d<n)(hx:a.eval x=.int .i64 p)(hy:a.eval y=.int .i64 q)(h:Nxt E b k cs ops rest n d a l (.int .i64 (IntKind.i64.wrap (p-q))) W):E (G (b.at a (.inRegion ops (i::rest)::k)) cs) W:=
 iG hE hk hO hS hd _ (λ_ _ _=>lL hx hy λw=>rfl) h
theorem Ib{P:Program}{a:Act}{W:World}{dst:Option Tmp}{ty:TypeId}{pos:String}{after:Array Edge}{guard:Option (Nat×Bool)}{x:Operand}{t:TypeId}{p:Option Addr}{len cap:Nat}(hx:a.eval x=.slice p len cap)(hd:∃e,P.underlying t=some (.slice e)):mW P a ⟨dst,.call ⟨.builtin .cap,#[x],#[t]⟩,ty,pos,after,guard⟩ W (goInt cap):=by obtain⟨e,hd⟩:=hd;refine⟨?_,λW1 _=>?_⟩;simp only[execOp,resolve];exact aa (m:=Builtin.cap_ _ _ _) (P2 _ _ _) λ_=>trivial;have hl:(Builtin.cap_ #[t] ty #[.slice p len cap]).run P W1=.ok (goInt cap) W1:=(by simp[Builtin.cap_,run_underlying hd]);simp only[execOp,resolve,invoke,builtin,UQ,UP,UO,List.map_toArray,List.map_cons,List.map_nil,hx,hl]
noncomputable def gB:Code:=fM Tryz.f177
theorem SO:gB=.seq (.region 0 (Wy (Vo gB)) false) (.seq (.seq (.region 1 (Wy (Vo (Vo (Ve gB)))) false) (.cond (.tmp 6) (cn1 (Ve (Vo (Ve gB)))) .skip)) (.seq (.seq (.region 3 (Wy (Vo (Vo (Ve (Ve gB))))) false) (.seq (.region 4 (Wy (Vo (Ve (Vo (Ve (Ve gB)))))) false) (.cond (.tmp 16) (cn1 (Ve (Ve (Vo (Ve (Ve gB)))))) .skip))) (.seq (.region 6 (Wy (Vo (Ve (Ve (Ve gB))))) false) .ret))):=by kernel_rfl
theorem HG:∃e,Tryz.prog.underlying 47=some (.slice e):=⟨_,Tryz.underlying47⟩
open Go.Conc in
set_option maxRecDepth 100000 in
set_option maxHeartbeats 1000000 in
theorem yU{co:Bool}(W:World):bx Tryz.prog co 177 #[.slice none 0 0,.int .i64 0] W λe W'=>e=.returned (.slice none 0 0)∧Rv W W':=by
 intro E hE cs hc;have Yx:VH 27 {tmps:=#[.slice none 0 0,.int .i64 0]++Array.replicate 25 undef,defers:=[]} [(0,.slice none 0 0),(1,.int .i64 0)]:=⟨by simp,λt v e=>by
  simp only[aw] at e;split at e;rename_i x;subst x;obtain rfl:=Oi e;kernel_rfl;split at e;rename_i x;subst x;obtain rfl:=Oi e;kernel_rfl
  ·cases e⟩
 have he:Frame.enter Tryz.prog 177 #[.slice none 0 0,.int .i64 0] .normal=(base 177).at {tmps:=#[.slice none 0 0,.int .i64 0]++Array.replicate 25 undef,defers:=[]} [.code gB]:=by kernel_rfl
 rw[he];have XM:({tmps:=#[.slice none 0 0,.int .i64 0]++Array.replicate 25 undef,defers:=[]} : Act).defers=[]:=rfl;generalize ({tmps:=#[.slice none 0 0,.int .i64 0]++Array.replicate 25 undef,defers:=[]} : Act)=a0 at Yx XM ⊢;have hb:(base 177).kind≠.early:=by decide
 refine bZ hE _ _ SO ?_;refine aU hE _ _ 1 rfl (by kernel_rfl) ?_;refine fO (d:=4) (x:=.const (.slice none 0 0)) hE hb (by kernel_rfl) Yx (by decide) (.slice none 0 0) rfl λa1 Wa d1=>?_;refine au hE ?_;refine bZ hE _ _ rfl ?_;refine bZ hE _ _ rfl ?_;refine aU hE _ _ 2 rfl (by kernel_rfl) ?_;refine dO (d:=5) (x:=.tmp 1) hE hb (by kernel_rfl) Wa (by decide) (.int .i64 0) (Wa.ev rfl) λa2 WG d2=>?_;refine uK (d:=6) (t:=3) (yt:=3) (x:=.tmp 5) (y:=.const (.int .i64 0)) hE hb (by kernel_rfl) WG (by decide) (WG.ev rfl) rfl λa3 XU d3=>?_;refine au hE ?_;refine s_cond hE 6 _ _ rfl XU false rfl ?_;refine kF hE rfl ?_;refine bZ hE _ _ rfl ?_;refine bZ hE _ _ rfl ?_;refine aU hE _ _ 8 rfl (by kernel_rfl) ?_;refine dO (d:=8) (x:=.tmp 1) hE hb (by kernel_rfl) XU (by decide) (.int .i64 0) (XU.ev rfl) λa4 YV d4=>?_;refine dO (d:=9) (x:=.tmp 0) hE hb (by kernel_rfl) YV (by decide) (.slice none 0 0) (YV.ev rfl) λa5 Xu d5=>?_;refine iG (d:=10) (op:=.call ⟨.builtin .cap,#[.tmp 9],#[47]⟩) hE hb (by kernel_rfl) Xu (by decide) (.int .i64 0) (λ_ _ _=>Ib (Xu.ev rfl) HG) λa6 Zg d6=>?_;refine dO (d:=11) (x:=.tmp 0) hE hb (by kernel_rfl) Zg (by decide) (.slice none 0 0) (Zg.ev rfl) λa7 YH d7=>?_;refine C1 (d:=12) (t:=47) (x:=.tmp 11) hE hb (by kernel_rfl) YH (by decide) (YH.ev rfl) HG λa8 hS8 d8=>?_;refine OR (d:=13) (t:=3) (yt:=3) (x:=.tmp 10) (y:=.tmp 12) hE hb (by kernel_rfl) hS8 (by decide) (hS8.ev rfl) (hS8.ev rfl) λa9 hS9 d9=>?_;refine OR (d:=14) (t:=3) (yt:=3) (x:=.tmp 8) (y:=.tmp 13) hE hb (by kernel_rfl) hS9 (by decide) (hS9.ev rfl) (hS9.ev rfl) λa10 Zh d10=>?_;refine fO (d:=1) (x:=.tmp 14) hE hb (by kernel_rfl) Zh (by decide) (.int .i64 0) (Zh.ev (by rfl)) λa11 ZK d11=>?_;refine au hE ?_;refine bZ hE _ _ rfl ?_;refine aU hE _ _ 2 rfl (by kernel_rfl) ?_;refine dO (d:=15) (x:=.tmp 1) hE hb (by kernel_rfl) ZK (by decide) (.int .i64 0) (ZK.ev rfl) λa12 hS12 d12=>?_;refine OS (d:=16) (t:=3) (yt:=3) (x:=.tmp 15) (y:=.const (.int .i64 0)) hE hb (by kernel_rfl) hS12 (by decide) (hS12.ev rfl) rfl λa13 hS13 d13=>?_;refine au hE ?_;refine s_cond hE 16 _ _ rfl hS13 false rfl ?_;refine kF hE rfl ?_;refine bZ hE _ _ rfl ?_;refine aU hE _ _ 2 rfl (by kernel_rfl) ?_;refine dO (d:=26) (x:=.tmp 0) hE hb (by kernel_rfl) hS13 (by decide) (.slice none 0 0) (hS13.ev rfl) λa14 hS14 d14=>?_;refine fO (d:=4) (x:=.tmp 26) hE hb (by kernel_rfl) hS14 (by decide) (.slice none 0 0) (hS14.ev rfl) λa15 hS15 d15=>?_;refine au hE ?_;refine J1 hE rfl ?_;have hr:Tryz.f177.results=#[.tmp 4]:=by kernel_rfl
 refine hc (.returned (.slice none 0 0)) W _ ⟨rfl,Rv.refl W⟩ rfl ⟨rfl,?_,rfl,_,Tryz.func177,?_⟩;exact d15.trans (d14.trans (d13.trans (d12.trans (d11.trans (d10.trans (d9.trans (d8.trans (d7.trans (d6.trans (d5.trans (d4.trans (d3.trans (d2.trans (d1.trans XM))))))))))))));rw[results_tmp hr];have:=hS15.ev (t:=4) rfl;exact Uv (λv=>Result.ok v W) this
set_option maxRecDepth 100000 in
noncomputable def KC:UW cx:=qx 177 Tryz.call177 (dC (fl:=[]) (fn:=Tryz.f177) Tryz.func177 (by kernel_rfl)) (aD Vy (Vm .i64)) (λx=>[x.1=yy,x.2=0]) (λ_=>yy) λx ze W vs hp hG hz hd=>by obtain⟨x,n⟩:=x;obtain⟨rfl,rfl⟩:x=yy∧n=0:=hp;obtain⟨u,w,rfl,rfl,u2,w2,rfl,rfl,rfl⟩:=hd;exact(yU W).mono λe W' ⟨h1,h2⟩=>⟨_,λ_ _ _=>False,h1,cZ h2,λ_ _ _ h=>h.elim,rfl⟩
set_option maxRecDepth 100000 in
set_option maxHeartbeats 2000000 in
theorem AA:∀x:SV,aA ((λx=>[∃n:Nat,x=Dn n∧n<=1000]) x)->aH (C:=cx) [KC] [] 0 ⟨[],[],[3,11],0⟩ Tryz.f118 ((bs Vy).enc x) λv H _=>fY ((λ_=>fP) x) H v:=by
 intro x hx;obtain⟨n,rfl,hn⟩:=hx;refine T' (Ud n) ?_;refine Ai ?_ ?_
 ·refine⟨(0:Nat),[],[],trivial,Up _,?_⟩;repeat' (first|refine Ai ?_ ?_|intro _|exact rfl)
 refine fun(k:Nat) (hk:k<=n)=>?_;refine Ai (λhb=>?_) (λhb=>?_)
 ·have hb:(k:Int)<n:=Od hb;refine Ai ⟨by omega,by omega⟩ ?_;refine Ai (by unfold U1;omega:U1 ((k:Int)+1)) ?_;refine⟨k+1,[],[],(by show n-(k+1)<n-k;omega),(by omega:k+1<=n),?_⟩;repeat' (first|refine Ai ?_ ?_|intro _|exact rfl)
 refine Ai ⟨rfl,rfl⟩ ?_;refine T' (Uc n) ?_;refine Ai ?_ ?_
 ·refine⟨(0:Nat),[],[.slot2 6 3 121],trivial,Up _,?_⟩;repeat' (first|refine Ai ?_ ?_|intro _|exact rfl)
  all_goals exact Uw ‹_<0› (F' _)
 refine fun(k:Nat) (hk:k<=n)=>?_;refine Ai (λhb=>?_) (λhb=>?_)
 ·have hb:(k:Int)<n:=Od hb;refine Ai ⟨by omega,by omega⟩ ?_;refine Ai (Ai (⟨Up _,by decide⟩:gQ (0+0) 24) (λj h=>Uw h (F' _))) ?_;refine Ai (by unfold U1;omega:U1 ((k:Int)+1)) ?_;refine⟨k+1,[(1,2)],[],(by show n-(k+1)<n-k;omega),(by omega:k+1<=n),?_⟩;repeat' (first|refine Ai ?_ ?_|intro _|exact rfl)
  all_goals exact Uw ‹_<0› (F' _)
 repeat' (first|refine Ai ?_ ?_|intro _|exact rfl)
 all_goals exact Uw ‹_<0› (F' _)
noncomputable def BS:UW cx:=jT 118 Tryz.call118 (bs Vy) _ _ (λ_=>⟨[],[],[3,11],0⟩) [] (λ_=>rfl) follows Tryz.func118 (by kernel_rfl) AA
end Go.Proofs.YtgigkennhdolpaaGreatDoor
namespace Go.Proofs.YtgigkennhdolpaaGreatDoor
open Go.RowKit Go.Conc
noncomputable def lB:Code:=fM Tryz.f226
theorem SC:lB=.seq (.region 0 (Wy (Vo lB)) false) (.seq (.seq (.region 1 (Wy (Vo (Vo (Ve lB)))) false) (.cond (.tmp 4) (cn1 (Ve (Vo (Ve lB)))) .skip)) (.seq (.seq (.region 4 (Wy (Vo (Vo (Ve (Ve lB))))) false) (.cond (.tmp 8) (cn1 (Ve (Vo (Ve (Ve lB))))) .skip)) (.seq (.seq (.region 7 (Wy (Vo (Vo (Ve (Ve (Ve lB)))))) false) (.cond (.tmp 14) (cn1 (Ve (Vo (Ve (Ve (Ve lB)))))) .skip)) (.seq (.region 10 (Wy (Vo (Ve (Ve (Ve (Ve lB)))))) false) .ret)))):=by kernel_rfl
noncomputable def HO:Value:=match WY (Wy (Vo (Ve (Ve (Ve (Ve lB)))))) 3 with|some (_,.index _ (.const v) _,_)=>v|_=>undef
theorem uL{P:Program}{a:Act}{W:World}{dst:Option Tmp}{ty:TypeId}{pos:String}{after:Array Edge}{guard:Option (Nat×Bool)}{x:Operand}{s t:TypeId}{k k':IntKind}(hx:a.eval x=.int k 0)(hs:P.underlying s=some (.int k))(ht:P.underlying t=some (.int k')):mW P a ⟨dst,.convert s t x,ty,pos,after,guard⟩ W (.int k' 0):=by
 refine⟨aa (by rw[hx];exact sF ht) λ_=>trivial,λW1 _=>?_⟩;have:(convert s t (.int k 0)).run P W1=.ok (.int k' 0) W1:=by have hw:k'.wrap 0=0:=(by cases k'<;>rfl);simp[convert,run_underlying hs,run_underlying ht,Conv.intToInt,hw]
 simp only[execOp,hx,UQ,this,UO,UP]
theorem H9{a:Act}{W:World}{dst:Option Tmp}{ty:TypeId}{pos:String}{after:Array Edge}{guard:Option (Nat×Bool)}{x:Operand}(hx:a.eval x=.int .u8 0):mW Tryz.prog a ⟨dst,.index 9 (.const HO) x,ty,pos,after,guard⟩ W (.int .u8 0):=by
 refine⟨aa (yu _ _ _) λ_=>trivial,λW1 _=>?_⟩;have:(Instr.index 9 HO (.int .u8 0)).run Tryz.prog W1=.ok (.int .u8 0) W1:=by kernel_rfl
 have e:a.eval (.const HO)=HO:=rfl;simp only[execOp,hx,e,UQ,this,UO,UP]
theorem H5{P:Program}{co:Bool}{E:Goroutine->World->Prop}{b:Frame}{a:Act}{k:List Item}{cs:List Frame}{W:World}{n:Nat}{l:List (Nat×Value)}{ops:Array Oper}{i d:Nat}{rest:List Nat}(hE:Closed P co E)(hk:b.kind≠.early){t yt:TypeId}{x y:Operand}{p q:Int}(hO:WY ops i=some (some d,.binOp .geq t x y yt,none))(hS:VH n a l)(hd:d<n)(hx:a.eval x=.int .u64 p)(hy:a.eval y=.int .u64 q)(h:Nxt E b k cs ops rest n d a l (.bool (decide (p>=q))) W):E (G (b.at a (.inRegion ops (i::rest)::k)) cs) W:=
 iG hE hk hO hS hd _ (λ_ _ _=>lL hx hy λw=>rfl) h
set_option maxRecDepth 100000 in
set_option maxHeartbeats 1000000 in
theorem yK{co:Bool}(W:World):bx Tryz.prog co 226 #[.int .u64 0] W λe W'=>e=.returned (.int .i64 0)∧Rv W W':=by
 intro E hE cs hc;have Yx:VH 25 {tmps:=#[.int .u64 0]++Array.replicate 24 undef,defers:=[]} [(0,.int .u64 0)]:=⟨by simp,λt v e=>by
  simp only[aw] at e;split at e;rename_i x;subst x;obtain rfl:=Oi e;kernel_rfl
  ·cases e⟩
 have he:Frame.enter Tryz.prog 226 #[.int .u64 0] .normal=(base 226).at {tmps:=#[.int .u64 0]++Array.replicate 24 undef,defers:=[]} [.code lB]:=by kernel_rfl
 rw[he];have XM:({tmps:=#[.int .u64 0]++Array.replicate 24 undef,defers:=[]} : Act).defers=[]:=rfl;generalize ({tmps:=#[.int .u64 0]++Array.replicate 24 undef,defers:=[]} : Act)=a0 at Yx XM ⊢;have hb:(base 226).kind≠.early:=by decide
 refine bZ hE _ _ SC ?_;refine aU hE _ _ 1 rfl (by kernel_rfl) ?_;refine fO (d:=2) (x:=.const (.int .i64 0)) hE hb (by kernel_rfl) Yx (by decide) (.int .i64 0) rfl λa1 Wa d1=>?_;refine au hE ?_;refine bZ hE _ _ rfl ?_;refine bZ hE _ _ rfl ?_;refine aU hE _ _ 2 rfl (by kernel_rfl) ?_;refine dO (d:=3) (x:=.tmp 0) hE hb (by kernel_rfl) Wa (by decide) (.int .u64 0) (Wa.ev rfl) λa2 WG d2=>?_;refine H5 (d:=4) (t:=31) (yt:=31) (x:=.tmp 3) (y:=.const (.int .u64 4294967296)) hE hb (by kernel_rfl) WG (by decide) (WG.ev rfl) rfl λa3 XU d3=>?_;refine au hE ?_;refine s_cond hE 4 _ _ rfl XU false rfl ?_;refine kF hE rfl ?_;refine bZ hE _ _ rfl ?_;refine bZ hE _ _ rfl ?_;refine aU hE _ _ 2 rfl (by kernel_rfl) ?_;refine dO (d:=7) (x:=.tmp 0) hE hb (by kernel_rfl) XU (by decide) (.int .u64 0) (XU.ev rfl) λa4 YV d4=>?_;refine H5 (d:=8) (t:=31) (yt:=31) (x:=.tmp 7) (y:=.const (.int .u64 65536)) hE hb (by kernel_rfl) YV (by decide) (YV.ev rfl) rfl λa5 Xu d5=>?_;refine au hE ?_;refine s_cond hE 8 _ _ rfl Xu false rfl ?_;refine kF hE rfl ?_;refine bZ hE _ _ rfl ?_;refine bZ hE _ _ rfl ?_;refine aU hE _ _ 2 rfl (by kernel_rfl) ?_;refine dO (d:=13) (x:=.tmp 0) hE hb (by kernel_rfl) Xu (by decide) (.int .u64 0) (Xu.ev rfl) λa6 Zg d6=>?_;refine H5 (d:=14) (t:=31) (yt:=31) (x:=.tmp 13) (y:=.const (.int .u64 256)) hE hb (by kernel_rfl) Zg (by decide) (Zg.ev rfl) rfl λa7 YH d7=>?_;refine au hE ?_;refine s_cond hE 14 _ _ rfl YH false rfl ?_;refine kF hE rfl ?_;refine bZ hE _ _ rfl ?_;refine aU hE _ _ 7 rfl (by kernel_rfl) ?_;refine dO (d:=19) (x:=.tmp 2) hE hb (by kernel_rfl) YH (by decide) (.int .i64 0) (YH.ev rfl) λa8 hS8 d8=>?_;refine dO (d:=20) (x:=.tmp 0) hE hb (by kernel_rfl) hS8 (by decide) (.int .u64 0) (hS8.ev rfl) λa9 hS9 d9=>?_;refine iG (d:=21) (op:=.convert 31 5 (.tmp 20)) hE hb (by kernel_rfl) hS9 (by decide) (.int .u8 0) (λ_ _ _=>uL (hS9.ev rfl) Tryz.underlying31 Tryz.underlying5) λa10 Zh d10=>?_;refine iG (d:=22) (op:=.index 9 (.const HO) (.tmp 21)) hE hb (by kernel_rfl) Zh (by decide) (.int .u8 0) (λ_ _ _=>H9 (Zh.ev rfl)) λa11 ZK d11=>?_;refine iG (d:=23) (op:=.convert 5 3 (.tmp 22)) hE hb (by kernel_rfl) ZK (by decide) (.int .i64 0) (λ_ _ _=>uL (ZK.ev rfl) Tryz.underlying5 Tryz.underlying3) λa12 hS12 d12=>?_;refine H6 (d:=24) (t:=3) (yt:=3) (x:=.tmp 19) (y:=.tmp 23) hE hb (by kernel_rfl) hS12 (by decide) (hS12.ev rfl) (hS12.ev rfl) λa13 hS13 d13=>?_;refine fO (d:=2) (x:=.tmp 24) hE hb (by kernel_rfl) hS13 (by decide) (.int .i64 0) (hS13.ev (by rfl)) λa14 hS14 d14=>?_;refine au hE ?_;refine J1 hE rfl ?_;have hr:Tryz.f226.results=#[.tmp 2]:=by kernel_rfl
 refine hc (.returned (.int .i64 0)) W _ ⟨rfl,Rv.refl W⟩ rfl ⟨rfl,?_,rfl,_,Tryz.func226,?_⟩;exact d14.trans (d13.trans (d12.trans (d11.trans (d10.trans (d9.trans (d8.trans (d7.trans (d6.trans (d5.trans (d4.trans (d3.trans (d2.trans (d1.trans XM)))))))))))));rw[results_tmp hr];have:=hS14.ev (t:=2) rfl;exact Uv (λv=>Result.ok v W) this
set_option maxRecDepth 100000 in
noncomputable def NU:UW cx:=qx 226 Tryz.call226 (dC (fl:=[]) (fn:=Tryz.f226) Tryz.func226 (by kernel_rfl)) (bs (Vm .u64)) (λx=>[x=0]) (λ_=>.v (.int .i64 0)) λx ze W vs hp hG hz hd=>by obtain rfl:x=0:=hp;obtain⟨u,w,rfl,rfl,rfl⟩:=hd;exact(yK W).mono λe W' ⟨h1,h2⟩=>⟨_,λ_ _ _=>False,h1,cZ h2,λ_ _ _ h=>h.elim,rfl⟩
end Go.Proofs.YtgigkennhdolpaaGreatDoor
namespace Go.Proofs.YtgigkennhdolpaaGreatDoor
open Go.RowKit
noncomputable def SH:Wl cx:=⟨179,Tryz.call179,Tryz.f179,Tryz.func179,[],[],[],0,by kernel_rfl⟩
noncomputable def Qn:Wl cx:=⟨217,Tryz.call217,Tryz.f217,Tryz.func217,[6],[],[],1,by kernel_rfl⟩
noncomputable def SG:Wl cx:=⟨178,Tryz.call178,Tryz.f178,Tryz.func178,[],[],[],1,by kernel_rfl⟩
def Pk:SV:=.v (.func (.func 120) #[] #[])
set_option maxRecDepth 100000 in
set_option maxHeartbeats 2000000 in
theorem Cc:∀x:SV×SV,aA ((λx=>[x.1=fP,x.2=Pk]) x)->aH (C:=cx) [NU] [SH,SG,Qn] 3 ⟨[],[],[],1⟩ Tryz.f119 ((aD Vy Vy).enc x) λv H _=>af ((λ_=>.tup []) x) H v:=by
 intro⟨x,f⟩ ⟨hx,hf⟩;replace hx:x=fP:=hx;replace hf:f=Pk:=hf;subst hx hf;refine Ai rfl ?_;refine Ai ⟨by decide,by decide⟩ ?_;refine Ai (λhb=>?_) (λhb=>Uw hb (by decide));refine Ai (λhb=>Uw hb (by decide)) (λhb=>?_);repeat' (first|refine Ai ?_ ?_|intro _|exact rfl)
 all_goals first|exact trivial|(conv=>whnf)
noncomputable def Ki:UW cx:=ae 119 Tryz.call119 (aD Vy Vy) _ _ (λ_=>⟨[],[],[],1⟩) [] (λ_=>rfl) follows Tryz.func119 (by kernel_rfl) Cc
end Go.Proofs.YtgigkennhdolpaaGreatDoor
namespace Go.Proofs.YtgigkennhdolpaaGreatDoor
section
variable {PP:Program}
def Cx.par(C:Cx PP):Cx PP:={C with co:=true}
def UW.lift{C:Cx PP}(hc:C.co=false)(c:UW C):UW C.par where
 f:=c.f
 en:=c.en
 ns:=c.ns
 run:=c.run
 fresh:=c.fresh
 own:=c.own
 wr:=c.wr
 frz:=c.frz
 ok:=λze W args vs ob out hg hz hd hr ho=>by have h:=c.ok ze W args vs ob out hg hz hd hr ho;rw[hc] at h;exact bx.lift (co:=true) h
end
end Go.Proofs.YtgigkennhdolpaaGreatDoor
namespace Go.Proofs.YtgigkennhdolpaaGreatDoor
open Go.Conc Go.RowKit
abbrev V7:Cx Tryz.prog:=cx.par
noncomputable def uo:List (UW V7):=[pZ.lift rfl,tI.lift rfl,Gd.lift rfl]
noncomputable def preB:Code:=.seq (Vo pB) (.seq (Vo p1) (.seq (Vo p3) (Vo p4)))
theorem Se:pB=.seq (Vo pB) p1:=by kernel_rfl
theorem Sn:p1=.seq (Vo p1) p3:=by kernel_rfl
theorem Sl:p3=.seq (Vo p3) p4:=by kernel_rfl
theorem Sk:p4=.seq (Vo p4) p5:=by kernel_rfl
def Has(st:St)(t:Nat)(v:SV):Prop:=∃q,look st.sl t=some q∧q.v=v∧q.g=[]
structure Po (w:U9) (x:Yc) (st:St):Prop where
 s2:Has st 2 (.v (.int .i64 1))
 s3:Has st 3 (.p 0 0)
 s4:Has st 4 (.p 1 0)
 s6:Has st 6 (.p 2 0)
 s9:Has st 9 (.p 4 0)
 s10:Has st 10 (.p 6 0)
 h0:look st.H 0=some (.lay [.v (.int .i64 w.tick),w.l.sv] 28)
 h1:look st.H 1=some (.lay x.cells 33)
 h2:look st.H 2=some (.lay [.il .i64 0,yy] 28)
 h3:look st.H 3=some (.lst 3 2 w.l.n (λi=>(w.l.e i).cells) 42)
 h4:look st.H 4=some (.lay [.v (.int .i64 w.tick),.g 3 3 2 0 w.l.n] 28)
 h5:look st.H 5=some (.lst 5 1 w.l.n (λ_=>[yy]) 47)
 h6:look st.H 6=some (.lay [.g 5 5 1 0 w.l.n] 189)
 nm:st.nm=7
set_option maxRecDepth 100000 in
set_option maxHeartbeats 2000000 in
theorem PQ(w:U9)(x:Yc)(hv:w.valid=true)(hs:w.l.Sm)(hn:w.l.n<=1000)(hc:∀i,i<w.l.n->(w.l.e i).l.n<=1000)(hx:x.tX):ev (C:=V7) uo 62 0 (gO (C:=V7) uo [] 0) (dT (C:=V7) []) ⟨[1001],[],[],1⟩ preB ⟨bB 0 [w.sv,x.sv,.v (.int .i64 1)],[],0,0,[],[]⟩ (λex st=>ex=.normal∧Po w x st):=by refine Ai ⟨λ_ _ _ _=>trivial,hs⟩ ?_;refine Ai (λhw=>?_) (λhw=>by have hw:(!w.valid)=true:=hw;rw[hv] at hw;cases hw);refine Ai ⟨λ_ _=>trivial,λi hi=>Uw (hx.p▸hi) (F' _),hx⟩ ?_;refine Ai (λhb=>?_) (λhb=>Uw hb (by decide));refine Ai (λhb=>Uw hb (by decide)) (λhb=>?_);refine Ai ⟨λ_ _ _ _=>trivial,hc,hn⟩ ?_;refine Ai ⟨Int.natCast_nonneg _,Int.le_refl _,(Nat.le_trans (show w.l.n<=1000 from hn) (by decide)),(show w.l.n*24<=140737488355328 by omega)⟩ ?_;refine Ai rfl ?_;exact⟨⟨_,rfl,rfl,rfl⟩,⟨_,rfl,rfl,rfl⟩,⟨_,rfl,rfl,rfl⟩,⟨_,rfl,rfl,rfl⟩,⟨_,rfl,rfl,rfl⟩,⟨_,rfl,rfl,rfl⟩,rfl,rfl,rfl,rfl,rfl,rfl,rfl,rfl⟩
set_option maxHeartbeats 2000000
section
variable {PP:Program}{C:Cx PP}{nt:Nat}{w0:World}{UT:Names}
theorem pM{st:St}{ρ:Names}{a:Act}{W:World}(hR:Rp C nt w0 UT st ρ a W){t:Nat}{v:SV}(h:Has st t v):∃x,den ρ v x∧a.tmps[t]? = some x:=by obtain⟨q,h1,rfl,h3⟩:=h;exact hR.cC t q h1 h3
end
section
variable {w:U9}{x:Yc}{st:St}{w0:World}{UT ρ:Names}{a:Act}{W:World}
theorem PT(P:Po w x st)(hx:x.systems.n=0)(hR:Rp V7 62 w0 UT st ρ a W){b3 b4 b9 Vf:Nat}(e3:ρ.n 0=some b3)(e4:ρ.n 1=some b4)(e9:ρ.n 4=some b9)(e10:ρ.n 6=some Vf):Nonempty (Li W w.l.n b4 b3 b9 Vf):=by
 have one:∀{n b b':Nat},ρ.n n=some b->ρ.n n=some b'->b=b':=λh1 h2=>Oi (h1.symm.trans h2);obtain⟨q0,vs0,n0,d0,k0,-,-⟩:=hR.base.blk _ _ P.h0;obtain⟨q1,vs1,n1,d1,k1,-,-⟩:=hR.base.blk _ _ P.h1;obtain⟨q4,vs4,n4,d4,k4,-,-⟩:=hR.base.blk _ _ P.h4;obtain⟨q6,vs6,n6,d6,k6,-,-⟩:=hR.base.blk _ _ P.h6;obtain⟨l3,v3,o3,N3,c3,r3⟩:=hR.base.blk _ _ P.h3;obtain⟨l5,v5,o5,N5,c5,r5⟩:=hR.base.blk _ _ P.h5;obtain rfl:=one e3 n0;obtain rfl:=one e4 n1;obtain rfl:=one e9 n4;obtain rfl:=one e10 n6;obtain⟨x0,y0,rfl,rfl,x1,y1,rfl,dw,rfl⟩:=d0;obtain⟨ad,cap,rfl,-,-⟩:=dw;obtain⟨x0,y0,rfl,⟨aS0,ks,rfl,-,-⟩,x1,y1,rfl,⟨ap,kp,rfl,-,-⟩,x2,y2,rfl,rfl,x3,y3,rfl,rfl,rfl⟩:=d1;have k1:W.heap[b4]? = some (.cells #[.slice aS0 0 ks,.slice ap x.progs.n kp,.int .u64 x.seed,.int .i64 x.fuel] 33 (0,0)):=by rw[hx] at k1;exact k1
 obtain⟨x0,y0,rfl,rfl,x1,y1,rfl,dg,rfl⟩:=d4;obtain⟨l,g1,g2,g3,g4,sp,rfl,g6⟩:=dg;obtain rfl:l3=l:=Oi (v3.symm.trans g1);obtain⟨x0,y0,rfl,df,rfl⟩:=d6;obtain⟨l',f1,f2,f3,f4,sf,rfl,f6⟩:=df;obtain rfl:l5=l':=Oi (v5.symm.trans f1);have cE:0<w.l.n->∃be u,sp=some ⟨be,0,none⟩∧Xi W be u 42∧∀i,i<w.l.n->∃id p n k,u[0+i*2]? = some (.int .i64 id)∧u[0+i*2+1]? = some (.slice p n k):=λhN=>by obtain⟨be,u,ha,hk,-,-,-,YS⟩:=r3 (by omega);obtain⟨be',ha',hsp⟩:=g6 (by omega);rw[ha] at ha';obtain rfl:be=be':=(by injection ha' with x;injection x);refine⟨be,u.toArray,by rw[hsp],hk,λi hi=>?_⟩;obtain⟨us,hd,-,hc⟩:=YS i hi;obtain⟨p0,t0,rfl,rfl,p1,t1,rfl,⟨ad2,cap2,rfl,-,-⟩,rfl⟩:=hd;refine⟨(w.l.e i).iD,ad2,(w.l.e i).l.n,cap2,?_,?_⟩;have:=hc 0 _ rfl;simpa using this;have:=hc 1 _ rfl;simpa using this
 have cF:0<w.l.n->∃bf u,sf=some ⟨bf,0,none⟩∧Xi W bf u 47∧∀i,i<w.l.n->u[0+i]? = some (.slice none 0 0):=λhN=>by obtain⟨be,u,ha,hk,-,-,-,YS⟩:=r5 (by omega);obtain⟨be',ha',hsp⟩:=f6 (by omega);rw[ha] at ha';obtain rfl:be=be':=(by injection ha' with x;injection x);refine⟨be,u.toArray,by rw[hsp],hk,λi hi=>?_⟩;obtain⟨us,hd,-,hc⟩:=YS i hi;obtain⟨p0,t0,rfl,rfl,rfl⟩:=hd;have:=hc 0 _ rfl;simpa using this
 by_cases hN:0<w.l.n;obtain⟨be,u,rfl,hk,YS⟩:=cE hN;obtain⟨bf,uf,rfl,hkf,helf⟩:=cF hN;exact⟨⟨_,_,_,u,uf,_,_,_,_,be,0,_,bf,0,_,_,_,_,_,_,_,_,_,k4,_,_,rfl,λ_=>rfl,k6,rfl,λ_=>rfl,k0,rfl,k1,λ_=>hk,YS,λ_=>hkf,helf⟩⟩;exact⟨⟨_,_,_,#[],#[],_,_,_,_,0,0,_,0,0,_,_,_,_,_,_,_,_,_,k4,_,_,rfl,λh=>Uw h hN,k6,rfl,λh=>Uw h hN,k0,rfl,k1,λh=>Uw h hN,λi hi=>Uw hi (by omega),λh=>Uw h hN,λi hi=>Uw hi (by omega)⟩⟩
end
def stB(w:U9):St:=⟨[sl 6 (.p 2 0),sl 9 (.p 4 0),sl 10 (.p 6 0)],[(2,.lay [.il .i64 0,yy] 28),(3,.lst 3 2 w.l.n (λi=>(w.l.e i).cells) 42),(4,.lay [.v (.int .i64 w.tick),.g 3 3 2 0 w.l.n] 28),(5,.lst 5 1 w.l.n (λ_=>[yy]) 47),(6,.lay [.g 5 5 1 0 w.l.n] 189)],7,0,[],[]⟩
noncomputable def Qw:List (UW V7):=[BS.lift rfl,Ki.lift rfl]
def pq(w:U9):SV:=.tup [w.sv,fP,.v (.int .i64 0)]
set_option maxRecDepth 100000 in
theorem LU(w:U9)(hn:w.l.n<=1000):ev (C:=V7) Qw 62 0 (gO (C:=V7) Qw [] 0) (dT (C:=V7) []) ⟨[],[],[],1⟩ p19 (stB w) (tr V7 Tryz.f79.results.toList λv H _=>af (pq w) H v):=by
 refine Ai ⟨_,rfl,hn⟩ ?_;refine Ai ⟨rfl,rfl⟩ ?_;repeat' (first|refine Ai ?_ ?_|intro _|exact rfl)
 all_goals first|(rw[B'];done)|(rw[B'];rfl)|exact Uw ‹_<0› (F' _)
def MR(b3 b4 b6 b9 Vf:Nat):List (Nat×Value):=[(2,dG 1),(3,ptr b3),(4,ptr b4),(6,ptr b6),(9,ptr b9),(10,ptr Vf)]
theorem Qb{b3 b4 b6 b9 Vf:Nat} : Rt (MR b3 b4 b6 b9 Vf) b3 b4 b9 Vf:=⟨λt ht=>by unfold MR;simp only[aw];rw[UC (by omega),UC (by omega),UC (by omega),UC (by omega),UC (by omega),UC (by omega)];rfl,rfl,rfl,rfl,rfl,rfl⟩
set_option maxRecDepth 100000 in
theorem E8{w:U9}{x:Yc}{ze:Nat->Nat->Value->Prop}{W:World}{vs:List Value}(hv:w.valid=true)(hs:w.l.Sm)(hn:w.l.n<=1000)(hc:∀i,i<w.l.n->(w.l.e i).l.n<=1000)(hx:x.tX)(hG:V7.Xe W)(hz:∀b i c,ze b i c->W.cell? ⟨b,i,none⟩=some c∧c.oneCell'=true)(hd:ao (aB ze) [w.sv,x.sv,.v (.int .i64 1)] vs) :
  bx Tryz.prog true 79 vs.toArray W λe W'=>∃v val H' VE US,e=.returned val∧af (pq w) H' v∧Mem V7 W (aB ze).VK VE US W'∧(∀n sb,look H' n=some sb->c8 US W' n sb)∧den US v val:=by
 refine Gi λΦ w00 S0 cs XC=>?_;have hE:=mJ (P:=Tryz.prog) (Φ:=Φ) (w00:=w00) (S0:=S0) (co:=true);refine mi hE Tryz.func79 (c:=pB) (by kernel_rfl) XC ?_;intro k h3;have hb:(fb 79).kind≠.early:=by decide
 have We:(fb 79).roundOf=none:=rfl;have dN:∀n b,(aB ze).VK.n n=some b->n<0:=λn b h=>by cases h
 have dV:∀e l,(aB ze).VK.v e=some l->e<0∧l.o<0:=λn b h=>by cases h
 have dK:∀m i l,(aB ze).VK.k m i=some l->m<0:=λn i b h=>by cases h
 have hR0:=x8 (C:=V7) (n:=62) (show ([w.sv,x.sv,.v (.int .i64 1)]:List SV).length<=62 from(by decide:3<=62)) hG hz hd;have hnt:Tryz.f79.ntmps=62:=by kernel_rfl
 rw[hnt];refine v7 (C:=V7) (Γ:=uo) (h:=⟨[1001],[],[],1⟩) hE (cA (C:=V7) (Γ:=uo) (Fs:=[]) follows 0) follows dN dV dK hb We Se rfl (by kernel_rfl) (PQ w x hv hs hn hc hx) (λ_ _ h=>h.1) hR0 λst1 Vx a1 W1 he1 hR1=>?_;refine v7 (C:=V7) (Γ:=uo) (h:=⟨[1001],[],[],1⟩) hE (cA (C:=V7) (Γ:=uo) (Fs:=[]) follows 0) follows dN dV dK hb We Sn rfl (by kernel_rfl) he1 (λ_ _ h=>h.1) hR1 λYM WU a2 W2 he2 hR2=>?_;refine v7 (C:=V7) (Γ:=uo) (h:=⟨[1001],[],[],1⟩) hE (cA (C:=V7) (Γ:=uo) (Fs:=[]) follows 0) follows dN dV dK hb We Sl rfl (by kernel_rfl) he2 (λ_ _ h=>h.1) hR2 λZ9 ρ3 a3 W3 he3 hR3=>?_;refine Qd (C:=V7) (Γ:=uo) (h:=⟨[1001],[],[],1⟩) hE (cA (C:=V7) (Γ:=uo) (Fs:=[]) follows 0) follows dN dV dK hb We Sk (by kernel_rfl) he3 (λ_ _ h=>h.1) hR3 λst4 ρ4 a4 W4 hK4 hR4=>?_;have P:=hK4.2;obtain⟨x2,rfl,t2⟩:=pM hR4 P.s2;obtain⟨x3,⟨b3,n3,rfl⟩,t3⟩:=pM hR4 P.s3;obtain⟨x4,⟨b4,n4,rfl⟩,t4⟩:=pM hR4 P.s4;obtain⟨x6,⟨b6,n6,rfl⟩,t6⟩:=pM hR4 P.s6;obtain⟨x9,⟨b9,n9,rfl⟩,t9⟩:=pM hR4 P.s9;obtain⟨x10,⟨Vf,n10,rfl⟩,t10⟩:=pM hR4 P.s10;have hS:VH 62 a4 (MR b3 b4 b6 b9 Vf):=⟨hR4.base.sz,λt v e=>by
  unfold MR at e;simp only[aw] at e;repeat' split at e
  (all_goals first|(cases e;done)|skip);all_goals (obtain rfl:=Oi e;subst_vars;assumption)⟩
 refine Mx hb rfl Qb (N:=w.l.n) (λW1 r=>PT P hx.s (hR4.later r) n3 n4 n9 n10) (by omega) hS hR4.base.df λa5 W5 Xu hd5 r5=>?_;have hR5:Rp V7 62 W (aB ze).VK (stB w) ρ4 a5 W5:=by
  refine Ih hR4 r5 Xu.1 hd5 (P.nm▸rfl) (λn sb hn=>?_) (λt q hq=>?_)
  ·simp only[aw] at hn;repeat' split at hn
   (all_goals first|(cases hn;done)|skip);all_goals (obtain rfl:=Oi hn;subst_vars)
   exact P.h2;exact P.h3;exact P.h4;exact P.h5;exact P.h6
  have Y4:look ((6,_)::(9,_)::(10,_)::[]) t=some q:=hq;simp only[aw] at Y4;repeat' split at Y4
  (all_goals first|(cases Y4;done)|skip);all_goals (obtain rfl:=Oi Y4;subst_vars)
  exact⟨rfl,_,⟨b6,n6,rfl⟩,Xu.2 6 _ rfl⟩;exact⟨rfl,_,⟨b9,n9,rfl⟩,Xu.2 9 _ rfl⟩;exact⟨rfl,_,⟨Vf,n10,rfl⟩,Xu.2 10 _ rfl⟩
 refine(zy (C:=V7) (UT:=(aB ze).VK) (cA (C:=V7) (Γ:=Qw) (Fs:=[]) follows 0) follows dN dV dK p19 (stB w) _ (by kernel_rfl) (LU w hn) ρ4 a5 W5 hR5) _ hE _ k cs hb We λe a6 W6 ⟨x',st6,ρ6,ZZ,hK6,hR6⟩=>h3 e a6 W6 ?_;have key:qN V7 Tryz.f79.results.toList st6 (λv=>af (pq w) st6.H v)->a6.defers=[]∧∃v,(results Tryz.f79 a6.tmps).run Tryz.prog W6=.ok v W6∧∃v' val H' VE US,Ending.returned v=.returned val∧af (pq w) H' v'∧Mem V7 W (aB ze).VK VE US W6∧(∀n sb,look H' n=some sb->c8 US W6 n sb)∧den US v' val:=by intro hk;obtain⟨v,h1,v',H',VE,h2,h3,h4,h5⟩:=BO (K:=λv H _=>af (pq w) H v) rfl hR6 hk;exact⟨hR6.base.df,v,h1,v',v,H',VE,ρ6,rfl,h2,h3,h4,h5⟩
 subst ZZ;cases x' with
 | normal=>exact key hK6
 | exit i=>exact hK6.elim
 | ret=>exact key hK6
set_option maxRecDepth 100000 in
noncomputable def xc:UW V7:=qx 79 Tryz.call79 (dC (fl:=[1001]) (fn:=Tryz.f79) Tryz.func79 (by kernel_rfl)) (eU cY sj (Vm .i64)) (λx=>[x.1.valid=true,x.1.l.Sm,x.1.l.n<=1000,∀i,i<x.1.l.n->(x.1.l.e i).l.n<=1000,x.2.1.tX,x.2.2=1]) (λx=>pq x.1) λx ze W vs hp hG hz hd=>by obtain⟨w,x,n⟩:=x;obtain⟨hv,hs,hn,hc,hx,rfl⟩:=hp;refine(E8 hv hs hn hc hx hG hz hd).mono λe W' ⟨v,val,H',VE,US,h1,h2,h3,h4,h5⟩=>?_;obtain⟨q1,q2,q3⟩:=oC h2 h3 h4 h5;exact⟨val,(zR US W').z,h1,q1,q2,q3⟩
end Go.Proofs.YtgigkennhdolpaaGreatDoor
