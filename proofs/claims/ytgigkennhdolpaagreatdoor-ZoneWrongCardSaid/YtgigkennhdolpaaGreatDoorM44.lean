/- Company, 50: workers.Parallel with one worker, without Systems. -/
import Derived.Test.YtgigkennhdolpaaGreatDoorM43
import Derived.Test.YtgigkennhdolpaaGreatDoorM19
import Derived.Test.YtgigkennhdolpaaGreatDoorM26
import Derived.Test.YtgigkennhdolpaaGreatDoorM4
namespace Go.Proofs.YtgigkennhdolpaaGreatDoor
open Go.Conc Go.RowKit
open Go.Conc.Lib Go.ConcR.Gen Go.ConcN.Gen
open Go.ConcR (KK wgBlock WgAt stA smA rd wr mk DC0)
theorem Le{W4 W6:World}{b:Nat}{u v:Value}{t:TypeId}(r:Rv W4 W6)(hb:W6.heap[b]? = some (.cells #[u] t (0,0)))(hn:W4.heap.size<=b):Rv W4 (W6.setRow b #[v])∧(W6.setRow b #[v]).heap[b]? = some (.cells #[v] t (0,0)):=by
 refine⟨⟨r.os,r.tape,r.output,λbb o h=>?_⟩,setRow_heap W6 b _ _ t (0,0) hb⟩;have h6:=r.heap _ _ h;have hl:=(E'.1 h).1;have UR:¬b=bb:=by omega
 simp only[World.setRow,Array.getElem?_modify,Uv UR];exact h6
section
variable {b3 b4 b9 U5 N:Nat}{b:Frame}{k:List Item}{cs:List Frame}{l:List (Nat×Value)}{Φ:Value->World->Prop}{w00:World}{S0:Nat->Prop}
set_option maxRecDepth 100000 in
set_option maxHeartbeats 2000000 in
theorem LI(hb:b.kind≠.early)(hf:b.fn=79)(hl:Q0 l b3 b4 b9 U5){W:World}(X:∀W1,Rv W W1->Nonempty (KE W1 N b4 b3 b9 U5))(hN:N<9223372036854775807)
  {a:Act} (hS:Vy 62 a l) (hd:a.defers=[]) (hK:∀a' W',Vy 62 a' l->a'.defers=[]->Rv W W'->Er Tryz.prog Φ w00 S0 (G (b.at a' (.code p19::k)) cs) W') :
  Er Tryz.prog Φ w00 S0 (G (b.at a (.code p5::k)) cs) W:=by
 refine Er.grown λW1 r1 hz=>?_;obtain⟨X⟩:=X W1 r1;have hE:=mw (P:=Tryz.prog) (Φ:=Φ) (w00:=w00) (S0:=S0) (co:=true);have dr:∀{a1:Act} {v:Value} {d:Nat} {l':List (Nat×Value)},Vy 62 a1 ((d,v)::l')->look l' d=none->Vy 62 a1 l':=λh hd=>h.drop hd;obtain⟨infi,UX,-⟩:=pk (t:=3) rfl;refine bU hE _ _ R4 ?_;refine aQ hE _ _ 3 rfl (by kernel_rfl) ?_;have hO0:WN o5 0=some (some 38,.makeChan 190 (.const (.int .i64 0)),none):=by kernel_rfl
 obtain⟨ty0,pos0,after0,ho0⟩:=eF hO0;refine Dy hE hb ho0 rfl (yf (e:=3) (dir:=.both)) λW2 r2=>⟨_,_,y9 mj UX rfl,?_⟩
 have hc2:=pQ W2 (.chan 0 #[] false 0 0 false);have ra2:=tI W2 (.chan 0 #[] false 0 0 false);have Xm:W1.heap.size<=W2.heap.size:=r2.size;generalize W2.alloc (.chan 0 #[] false 0 0 false)=W3 at hc2 ra2 ⊢;generalize W2.heap.size=c at hc2 Xm ⊢;have r3:=r2.trans ra2;have V1:Vy 62 (a.put (some 38) (.chan (some c))) ((38,.chan (some c))::l):=hS.put (by decide) _;show Er Tryz.prog Φ w00 S0 (G (b.at (a.put (some 38) (.chan (some c))) _) cs) W3;have Wl:(a.put (some 38) (.chan (some c))).defers=[]:=hd;generalize a.put (some 38) (.chan (some c))=a1 at V1 Wl ⊢;have hO1:WN o5 1=some (some 11,.alloc 190,none):=by kernel_rfl
 obtain⟨ty1,pos1,after1,ho1⟩:=eF hO1;refine Dy hE hb ho1 rfl uL λW4 r4=>⟨_,_,vb Tryz.zeroValue190,?_⟩
 have h11:=pQ W4 (.cells (Value.chan none).cells 190);have ra4:=tI W4 (.cells (Value.chan none).cells 190);have hc4:=r4.heap _ _ hc2;have YR:=(E'.1 hc4).1;have r14:=r3.trans r4;have hs14:=r14.size;generalize W4.alloc (.cells (Value.chan none).cells 190)=W5 at h11 ra4 ⊢;have hb11:W4.heap.size=W4.heap.size:=rfl;generalize hq:W4.heap.size=UN at h11 ⊢;have Wt:Vy 62 (a1.put (some 11) (ptr UN)) ((11,ptr UN)::(38,.chan (some c))::l):=V1.put (by decide) _;show Er Tryz.prog Φ w00 S0 (G (b.at (a1.put (some 11) (ptr UN)) _) cs) W5;have Xe:(a1.put (some 11) (ptr UN)).defers=[]:=Wl;generalize a1.put (some 11) (ptr UN)=a2 at Wt Xe ⊢;have hO2:WN o5 2=some (none,.store 190 (.tmp 11) (.tmp 38),none):=by kernel_rfl
 obtain⟨ty2,pos2,after2,ho2⟩:=eF hO2;refine Qq hE hb ho2 rfl (aa (kG _ _ _) λ_=>trivial) λW6 r6=>⟨_,E9 Tryz.sizeOf190 (Wt.ev rfl) (r6.heap _ _ h11) (Wt.ev rfl) rfl rfl,?_⟩
 obtain⟨r46,h11b⟩:=Le (v:=.chan (some c)) (ra4.trans r6) (r6.heap _ _ h11) (by omega);generalize W6.setRow UN #[.chan (some c)]=W7 at r46 h11b ⊢;show Er Tryz.prog Φ w00 S0 (G (b.at a2 _) cs) W7;refine ao hE ?_;refine bU hE _ _ R3 ?_;refine aQ hE _ _ 1 rfl (by kernel_rfl) ?_;have hO3:WN o6 0=some (some 12,.alloc 198,none):=by kernel_rfl
 obtain⟨ty3,pos3,after3,ho3⟩:=eF hO3;refine Dy hE hb ho3 rfl uL λW8 r8=>⟨_,_,vb Tryz.zeroValue198,?_⟩
 have Zm:=pQ W8 (wgBlock link.tWg 0 0);have ra8:=tI W8 (wgBlock link.tWg 0 0);have hW8:W7.heap.size<=W8.heap.size:=r8.size;have h11c:=(E'.1 h11b).1;have hc7:=r46.heap _ _ hc4;have hcl7:=(E'.1 hc7).1;have r19:=((r14.trans r46).trans r8).trans ra8;show Er Tryz.prog Φ w00 S0 (G (b.at (a2.put (some 12) (ptr W8.heap.size)) _) cs) (W8.alloc (wgBlock link.tWg 0 0));have hc9:=ra8.heap _ _ (r8.heap _ _ hc7);have h119:=ra8.heap _ _ (r8.heap _ _ h11b);generalize W8.alloc (wgBlock link.tWg 0 0)=W9 at Zm r19 hc9 h119 ⊢;generalize W8.heap.size=Wg at Zm hW8 ⊢;have XO:Vy 62 (a2.put (some 12) (ptr Wg)) ((12,ptr Wg)::(11,ptr UN)::l):=((Wt.put (t:=12) (by decide) (ptr Wg))).sub λt u e=>by simp only[au] at e ⊢;split at e;rename_i x;rw[Uw x];exact e;rename_i m1;rw[Uv m1];split at e;rename_i x;rw[Uw x];exact e;rename_i m2;have n38:¬(38=t):=λx=>(by rw[<-x,hl.free 38 (by omega)] at e;cases e);rw[Uv m2,Uv n38];exact e
 have hd3:(a2.put (some 12) (ptr Wg)).defers=[]:=Xe;generalize a2.put (some 12) (ptr Wg)=a3 at XO hd3 ⊢;refine ao hE ?_;refine bU hE _ _ R1 ?_;refine bU hE _ _ rfl ?_;refine aQ hE _ _ 2 rfl (by kernel_rfl) ?_;have lk:∀{t:Nat} {v:Value},look l t=some v->look ((12,ptr Wg)::(11,ptr UN)::l) t=some v:=λ{t v} h=>by have n2:∀z,z=11∨z=12->¬(z=t):=λz hz x=>(by rw[<-x,hl.free z (by omega)] at h;cases h);simp only[au];rw[Uv (n2 12 (by omega)),Uv (n2 11 (by omega))];exact h
 refine dA (d:=39) (x:=.tmp 2) hE hb (by kernel_rfl) XO (by decide) (de 1) (XO.ev (lk hl.n)) λa4 YT d4=>?_;refine dA (d:=40) (x:=.const (.int .i64 0)) hE hb (by kernel_rfl) YT (by decide) (de 0) rfl λa5 Xn d5=>?_;refine ao hE ?_;refine km hE 0 _ rfl (vK hE _ rfl ?_);refine bU hE _ _ H2 ?_;refine aQ hE _ _ 1 rfl (by kernel_rfl) ?_;refine uD (d:=41) (t:=3) (yt:=3) (x:=.tmp 40) (y:=.tmp 39) hE hb (by kernel_rfl) Xn (by decide) (Xn.ev rfl) (Xn.ev rfl) λa6 Y6 d6=>?_;refine ao hE ?_;refine bU hE _ _ rfl ?_;refine s_cond hE 41 _ _ rfl Y6 true (by rw[au,Uw rfl];rfl) ?_;refine kl hE rfl ?_;refine bU hE _ _ rfl ?_;refine km hE 1 _ rfl ?_;refine bU hE _ _ rfl ?_;refine aQ hE _ _ 1 rfl (by kernel_rfl) ?_;have YB:Vy 62 a6 ((40,de 0)::(39,de 1)::(12,ptr Wg)::(11,ptr UN)::l):=Y6.drop (by simp only[au];rw[Uv (by decide),Uv (by decide),Uv (by decide),Uv (by decide)];exact hl.free 41 (by omega));have hO9:WN o9 0=some (some 42,.call ⟨.value (.func 113),#[.tmp 12,.const (.int .i64 1)],#[198,3]⟩,none):=by kernel_rfl
 obtain⟨ty9,pos9,after9,ho9⟩:=eF hO9;refine Dz hE hb ho9 rfl (f:=113) (args:=#[ptr Wg,.int .i64 1]) (oi (x:=.func 113) rfl rfl (λargs=>jd Tryz.func113 (by kernel_rfl) args)) (λWx _=>?_) ?_;have e12:=YB.ev (t:=12) rfl;exact oA (x:=.func 113) rfl rfl Tryz.call113 (by simp[e12];rfl);exact EF hb hf hl X hN hz r19 Xm (by omega) (by omega) (by omega) (by omega) (by omega) Zm hc9 h119 YB (d6.trans (d5.trans (d4.trans hd3))) λa' W' hS' XJ r'=>hK a' W' hS' XJ (r1.trans r')
end
end Go.Proofs.YtgigkennhdolpaaGreatDoor
namespace Go.Proofs.YtgigkennhdolpaaGreatDoor
open Go.RowKit
def zWc:List SV:=[.il .i64 0,.v (.slice none 0 0)]
def TZ(e:U3):List SV:=[.v (.int .i64 e.iD),e.l.sv]
def SX(w:U8):Cut:=⟨Nat,λk=>k<=w.l.n,λk=>⟨[sl 2 (.p 1 0),sl 3 (.p 2 0),sl 10 w.l.sv,sl 11 (i64 w.l.n),sl 12 (i64 k)],
 [(1,.lay zWc 28),(2,.lay [.v (.int .i64 w.tick),.g 3 4 2 0 k] 28),(3,.lst 4 2 k (λi=>TZ (w.l.e i)) 42)],5,0,[],[]⟩,λk=>w.l.n-k⟩
theorem nO{α:Type}{k i:Nat}(f:Nat->α)(h:i<k+1):f i=bif Nat.ble k i then f k else f i:=by
 cases hb:Nat.ble k i with
 | false=>rfl
 | true=>rw[show i=k by have:=L' hb;omega];rfl
set_option maxHeartbeats 2000000 in
set_option maxRecDepth 8000 in
theorem Aj:∀a,aH ((λa=>[∀i,i<a.l.n->(a.l.e i).l.n<=1000,a.l.n<=1000]) a)->aM (C:=cx) [JY] [] 0 ⟨[],[],[3],1⟩ Tryz.f112 ((bh c8).enc a) λv H _=>vO ((λa=>a.sv) a) 42 H v:=by
 intro w ⟨hm,hn⟩;replace hm:∀i,i<w.l.n->(w.l.e i).l.n<=1000:=hm;replace hn:w.l.n<=1000:=hn;refine Uh (SX w) ?_;refine Ai ?_ ?_
 ·refine⟨(0:Nat),[],[.cell2 2 1 2 42],trivial,Ui _,?_⟩;repeat' (first|refine Ai ?_ ?_|intro _|exact rfl)
  all_goals exact Up ‹_<0› (F' _)
 refine fun(k:Nat) (hk:k<=w.l.n)=>?_;refine Ai (λhb=>?_) (λhb=>?_)
 ·have hb:(k:Int)<w.l.n:=Od hb;refine Ai ⟨by omega,by omega⟩ ?_;refine Ai ⟨λ_ _=>trivial,hm k (by omega)⟩ ?_;have Vn:dW (k+1) 32:=⟨Nat.le_trans (by omega:k+1<=1001) (by decide),by omega⟩
  refine Ai ⟨Vn,?_⟩ ?_
  ·(repeat' (first|refine Ai ?_ ?_|intro _|exact rfl));all_goals exact trivial
  refine Ai (by unfold UP;omega:UP ((k:Int)+1)) ?_;refine⟨k+1,[(4,7)],[],(by show w.l.n-(k+1)<w.l.n-k;omega),(by omega:k+1<=w.l.n),?_⟩;repeat' (first|refine Ai ?_ ?_|intro _|exact rfl)
  rename_i i hi;exact nO (λi=>(w.l.e i).iD) hi;rename_i i hi;exact nO (λi=>(w.l.e i).l.n) hi;rename_i i hi j hj;exact nO (λi=>((w.l.e i).l.c j).kind) hi;rename_i i hi j hj;exact nO (λi=>((w.l.e i).l.c j).v0) hi;rename_i i hi j hj;exact nO (λi=>((w.l.e i).l.c j).v1) hi;rename_i i hi j hj;exact nO (λi=>((w.l.e i).l.c j).v2) hi;rename_i i hi j hj;exact nO (λi=>((w.l.e i).l.c j).v3) hi
 have hb:¬(k:Int)<w.l.n:=Ur hb;obtain rfl:k=w.l.n:=by omega
 repeat' (first|refine Ai ?_ ?_|intro _|exact rfl)
 exact(Uo (λq=>(w.l.e q).iD) (B' _)).symm;exact(Uo (λq=>(w.l.e q).l.n) (B' _)).symm;rename_i i hi j hj;exact(Uo (λq=>((w.l.e q).l.c j).kind) (B' _)).symm;rename_i i hi j hj;exact(Uo (λq=>((w.l.e q).l.c j).v0) (B' _)).symm;rename_i i hi j hj;exact(Uo (λq=>((w.l.e q).l.c j).v1) (B' _)).symm;rename_i i hi j hj;exact(Uo (λq=>((w.l.e q).l.c j).v2) (B' _)).symm;rename_i i hi j hj;exact(Uo (λq=>((w.l.e q).l.c j).v3) (B' _)).symm
noncomputable def Fq:UO cx:=GZ 112 Tryz.call112 (bh c8) (λa=>[∀i,i<a.l.n->(a.l.e i).l.n<=1000,a.l.n<=1000]) (λa=>a.sv) 42 (λ_=>⟨[],[],[3],1⟩) [] (λ_=>rfl) follows Tryz.func112 (by kernel_rfl) Aj
def CR(n:Nat):SV:=.rs 1 n λ_=>[yk]
def T5(n:Nat):Cut:=⟨Nat,λk=>k<=n,λk=>⟨[sl 0 (CR n),sl 3 (.il .i64 0),sl 9 (CR n),sl 10 (i64 n),sl 11 (i64 k)],[],0,0,[],[]⟩,λk=>n-k⟩
def fZ:SV:=.rs 3 0 λ_=>[]
def T4(n:Nat):Cut:=⟨Nat,λk=>k<=n,λk=>⟨[sl 6 (.g 0 1 3 0 0),sl 25 (CR n),sl 26 (i64 n),sl 27 (i64 k)],[(0,.lst 1 3 0 (λ_=>[]) 121)],2,0,[],[]⟩,λk=>n-k⟩
open Go.Conc in
theorem Og{P:Program}{co:Bool}{E:Goroutine->World->Prop}{b:Frame}{a:Act}{k:List Item}{cs:List Frame}{W:World}{n:Nat}{l:List (Nat×Value)}{ops:Array Oper}{i d:Nat}{rest:List Nat}(hE:Closed P co E)(hk:b.kind≠.early){t yt:TypeId}{x y:Operand}{p q:Int}(hO:WN ops i=some (some d,.binOp .sub t x y yt,none))(hS:Vy n a l)(hd:d<n)(hx:a.eval x=.int .i64 p)(hy:a.eval y=.int .i64 q)(h:Z' E b k cs ops rest n d a l (.int .i64 (IntKind.i64.wrap (p-q))) W):E (G (b.at a (.inRegion ops (i::rest)::k)) cs) W:=
 gZ hE hk hO hS hd _ (λ_ _ _=>lC hx hy λw=>rfl) h
theorem Hq{P:Program}{a:Act}{W:World}{dst:Option Tmp}{ty:TypeId}{pos:String}{after:Array Edge}{guard:Option (Nat×Bool)}{x:Operand}{t:TypeId}{p:Option Addr}{len cap:Nat}(hx:a.eval x=.slice p len cap)(hd:∃e,P.underlying t=some (.slice e)):mM P a ⟨dst,.call ⟨.builtin .cap,#[x],#[t]⟩,ty,pos,after,guard⟩ W (goInt cap):=by obtain⟨e,hd⟩:=hd;refine⟨?_,λW1 _=>?_⟩;simp only[execOp,resolve];exact aa (m:=Builtin.cap_ _ _ _) (PC _ _ _) λ_=>trivial;have hl:(Builtin.cap_ #[t] ty #[.slice p len cap]).run P W1=.ok (goInt cap) W1:=(by simp[Builtin.cap_,run_underlying hd]);simp only[execOp,resolve,invoke,builtin,UJ,UI,UH,List.map_toArray,List.map_cons,List.map_nil,hx,hl]
noncomputable def gB:Code:=eG Tryz.f177
theorem SE:gB=.seq (.region 0 (Wo (Ve gB)) false) (.seq (.seq (.region 1 (Wo (Ve (Ve (U6 gB)))) false) (.cond (.tmp 6) (cn1 (U6 (Ve (U6 gB)))) .skip)) (.seq (.seq (.region 3 (Wo (Ve (Ve (U6 (U6 gB))))) false) (.seq (.region 4 (Wo (Ve (U6 (Ve (U6 (U6 gB)))))) false) (.cond (.tmp 16) (cn1 (U6 (U6 (Ve (U6 (U6 gB)))))) .skip))) (.seq (.region 6 (Wo (Ve (U6 (U6 (U6 gB))))) false) .ret))):=by kernel_rfl
theorem G6:∃e,Tryz.prog.underlying 47=some (.slice e):=⟨_,Tryz.underlying47⟩
open Go.Conc in
set_option maxRecDepth 100000 in
set_option maxHeartbeats 1000000 in
theorem yM{co:Bool}(W:World):br Tryz.prog co 177 #[.slice none 0 0,.int .i64 0] W λe W'=>e=.returned (.slice none 0 0)∧Rv W W':=by
 intro E hE cs hc;have Yr:Vy 27 {tmps:=#[.slice none 0 0,.int .i64 0]++Array.replicate 25 undef,defers:=[]} [(0,.slice none 0 0),(1,.int .i64 0)]:=⟨by simp,λt v e=>by
  simp only[au] at e;split at e;rename_i x;subst x;obtain rfl:=Oi e;kernel_rfl;split at e;rename_i x;subst x;obtain rfl:=Oi e;kernel_rfl
  ·cases e⟩
 have he:Frame.enter Tryz.prog 177 #[.slice none 0 0,.int .i64 0] .normal=(base 177).at {tmps:=#[.slice none 0 0,.int .i64 0]++Array.replicate 25 undef,defers:=[]} [.code gB]:=by kernel_rfl
 rw[he];have Yh:({tmps:=#[.slice none 0 0,.int .i64 0]++Array.replicate 25 undef,defers:=[]} : Act).defers=[]:=rfl;generalize ({tmps:=#[.slice none 0 0,.int .i64 0]++Array.replicate 25 undef,defers:=[]} : Act)=a0 at Yr Yh ⊢;have hb:(base 177).kind≠.early:=by decide
 refine bU hE _ _ SE ?_;refine aQ hE _ _ 1 rfl (by kernel_rfl) ?_;refine fq (d:=4) (x:=.const (.slice none 0 0)) hE hb (by kernel_rfl) Yr (by decide) (.slice none 0 0) rfl λa1 V1 d1=>?_;refine ao hE ?_;refine bU hE _ _ rfl ?_;refine bU hE _ _ rfl ?_;refine aQ hE _ _ 2 rfl (by kernel_rfl) ?_;refine dA (d:=5) (x:=.tmp 1) hE hb (by kernel_rfl) V1 (by decide) (.int .i64 0) (V1.ev rfl) λa2 Wt d2=>?_;refine uD (d:=6) (t:=3) (yt:=3) (x:=.tmp 5) (y:=.const (.int .i64 0)) hE hb (by kernel_rfl) Wt (by decide) (Wt.ev rfl) rfl λa3 XO d3=>?_;refine ao hE ?_;refine s_cond hE 6 _ _ rfl XO false rfl ?_;refine kl hE rfl ?_;refine bU hE _ _ rfl ?_;refine bU hE _ _ rfl ?_;refine aQ hE _ _ 8 rfl (by kernel_rfl) ?_;refine dA (d:=8) (x:=.tmp 1) hE hb (by kernel_rfl) XO (by decide) (.int .i64 0) (XO.ev rfl) λa4 YT d4=>?_;refine dA (d:=9) (x:=.tmp 0) hE hb (by kernel_rfl) YT (by decide) (.slice none 0 0) (YT.ev rfl) λa5 Xn d5=>?_;refine gZ (d:=10) (op:=.call ⟨.builtin .cap,#[.tmp 9],#[47]⟩) hE hb (by kernel_rfl) Xn (by decide) (.int .i64 0) (λ_ _ _=>Hq (Xn.ev rfl) G6) λa6 Y6 d6=>?_;refine dA (d:=11) (x:=.tmp 0) hE hb (by kernel_rfl) Y6 (by decide) (.slice none 0 0) (Y6.ev rfl) λa7 YB d7=>?_;refine Cr (d:=12) (t:=47) (x:=.tmp 11) hE hb (by kernel_rfl) YB (by decide) (YB.ev rfl) G6 λa8 hS8 d8=>?_;refine Og (d:=13) (t:=3) (yt:=3) (x:=.tmp 10) (y:=.tmp 12) hE hb (by kernel_rfl) hS8 (by decide) (hS8.ev rfl) (hS8.ev rfl) λa9 hS9 d9=>?_;refine Og (d:=14) (t:=3) (yt:=3) (x:=.tmp 8) (y:=.tmp 13) hE hb (by kernel_rfl) hS9 (by decide) (hS9.ev rfl) (hS9.ev rfl) λa10 Y7 d10=>?_;refine fq (d:=1) (x:=.tmp 14) hE hb (by kernel_rfl) Y7 (by decide) (.int .i64 0) (Y7.ev (by rfl)) λa11 ZB d11=>?_;refine ao hE ?_;refine bU hE _ _ rfl ?_;refine aQ hE _ _ 2 rfl (by kernel_rfl) ?_;refine dA (d:=15) (x:=.tmp 1) hE hb (by kernel_rfl) ZB (by decide) (.int .i64 0) (ZB.ev rfl) λa12 Z9 d12=>?_;refine Oh (d:=16) (t:=3) (yt:=3) (x:=.tmp 15) (y:=.const (.int .i64 0)) hE hb (by kernel_rfl) Z9 (by decide) (Z9.ev rfl) rfl λa13 Z8 d13=>?_;refine ao hE ?_;refine s_cond hE 16 _ _ rfl Z8 false rfl ?_;refine kl hE rfl ?_;refine bU hE _ _ rfl ?_;refine aQ hE _ _ 2 rfl (by kernel_rfl) ?_;refine dA (d:=26) (x:=.tmp 0) hE hb (by kernel_rfl) Z8 (by decide) (.slice none 0 0) (Z8.ev rfl) λa14 hS14 d14=>?_;refine fq (d:=4) (x:=.tmp 26) hE hb (by kernel_rfl) hS14 (by decide) (.slice none 0 0) (hS14.ev rfl) λa15 hS15 d15=>?_;refine ao hE ?_;refine Jp hE rfl ?_;have hr:Tryz.f177.results=#[.tmp 4]:=by kernel_rfl
 refine hc (.returned (.slice none 0 0)) W _ ⟨rfl,Rv.refl W⟩ rfl ⟨rfl,?_,rfl,_,Tryz.func177,?_⟩;exact d15.trans (d14.trans (d13.trans (d12.trans (d11.trans (d10.trans (d9.trans (d8.trans (d7.trans (d6.trans (d5.trans (d4.trans (d3.trans (d2.trans (d1.trans Yh))))))))))))));rw[results_tmp hr];have:=hS15.ev (t:=4) rfl;exact Uo (λv=>Result.ok v W) this
set_option maxRecDepth 100000 in
noncomputable def JU:UO cx:=qf 177 Tryz.call177 (cZ (fl:=[]) (fn:=Tryz.f177) Tryz.func177 (by kernel_rfl)) (aL V4 (VK .i64)) (λx=>[x.1=yk,x.2=0]) (λ_=>yk) λx ze W vs hp hG hz hd=>by obtain⟨x,n⟩:=x;obtain⟨rfl,rfl⟩:x=yk∧n=0:=hp;obtain⟨u,w,rfl,rfl,u2,w2,rfl,rfl,rfl⟩:=hd;exact(yM W).mono λe W' ⟨h1,h2⟩=>⟨_,λ_ _ _=>False,h1,cQ h2,λ_ _ _ h=>h.elim,rfl⟩
set_option maxRecDepth 100000 in
set_option maxHeartbeats 2000000 in
theorem Ak:∀x:SV,aH ((λx=>[∃n:Nat,x=CR n∧n<=1000]) x)->aM (C:=cx) [JU] [] 0 ⟨[],[],[3,11],0⟩ Tryz.f118 ((bh V4).enc x) λv H _=>eZ ((λ_=>fZ) x) H v:=by
 intro x hx;obtain⟨n,rfl,hn⟩:=hx;refine Uh (T5 n) ?_;refine Ai ?_ ?_
 ·refine⟨(0:Nat),[],[],trivial,Ui _,?_⟩;repeat' (first|refine Ai ?_ ?_|intro _|exact rfl)
 refine fun(k:Nat) (hk:k<=n)=>?_;refine Ai (λhb=>?_) (λhb=>?_)
 ·have hb:(k:Int)<n:=Od hb;refine Ai ⟨by omega,by omega⟩ ?_;refine Ai (by unfold UP;omega:UP ((k:Int)+1)) ?_;refine⟨k+1,[],[],(by show n-(k+1)<n-k;omega),(by omega:k+1<=n),?_⟩;repeat' (first|refine Ai ?_ ?_|intro _|exact rfl)
 refine Ai ⟨rfl,rfl⟩ ?_;refine Uh (T4 n) ?_;refine Ai ?_ ?_
 ·refine⟨(0:Nat),[],[.slot2 6 3 121],trivial,Ui _,?_⟩;repeat' (first|refine Ai ?_ ?_|intro _|exact rfl)
  all_goals exact Up ‹_<0› (F' _)
 refine fun(k:Nat) (hk:k<=n)=>?_;refine Ai (λhb=>?_) (λhb=>?_)
 ·have hb:(k:Int)<n:=Od hb;refine Ai ⟨by omega,by omega⟩ ?_;refine Ai (Ai (⟨Ui _,by decide⟩:dW (0+0) 24) (λj h=>Up h (F' _))) ?_;refine Ai (by unfold UP;omega:UP ((k:Int)+1)) ?_;refine⟨k+1,[(1,2)],[],(by show n-(k+1)<n-k;omega),(by omega:k+1<=n),?_⟩;repeat' (first|refine Ai ?_ ?_|intro _|exact rfl)
  all_goals exact Up ‹_<0› (F' _)
 repeat' (first|refine Ai ?_ ?_|intro _|exact rfl)
 all_goals exact Up ‹_<0› (F' _)
noncomputable def Bz:UO cx:=iL 118 Tryz.call118 (bh V4) _ _ (λ_=>⟨[],[],[3,11],0⟩) [] (λ_=>rfl) follows Tryz.func118 (by kernel_rfl) Ak
end Go.Proofs.YtgigkennhdolpaaGreatDoor
namespace Go.Proofs.YtgigkennhdolpaaGreatDoor
open Go.RowKit Go.Conc
noncomputable def lB:Code:=eG Tryz.f226
theorem Sr:lB=.seq (.region 0 (Wo (Ve lB)) false) (.seq (.seq (.region 1 (Wo (Ve (Ve (U6 lB)))) false) (.cond (.tmp 4) (cn1 (U6 (Ve (U6 lB)))) .skip)) (.seq (.seq (.region 4 (Wo (Ve (Ve (U6 (U6 lB))))) false) (.cond (.tmp 8) (cn1 (U6 (Ve (U6 (U6 lB))))) .skip)) (.seq (.seq (.region 7 (Wo (Ve (Ve (U6 (U6 (U6 lB)))))) false) (.cond (.tmp 14) (cn1 (U6 (Ve (U6 (U6 (U6 lB)))))) .skip)) (.seq (.region 10 (Wo (Ve (U6 (U6 (U6 (U6 lB)))))) false) .ret)))):=by kernel_rfl
noncomputable def Ha:Value:=match WN (Wo (Ve (U6 (U6 (U6 (U6 lB)))))) 3 with|some (_,.index _ (.const v) _,_)=>v|_=>undef
theorem uE{P:Program}{a:Act}{W:World}{dst:Option Tmp}{ty:TypeId}{pos:String}{after:Array Edge}{guard:Option (Nat×Bool)}{x:Operand}{s t:TypeId}{k k':IntKind}(hx:a.eval x=.int k 0)(hs:P.underlying s=some (.int k))(ht:P.underlying t=some (.int k')):mM P a ⟨dst,.convert s t x,ty,pos,after,guard⟩ W (.int k' 0):=by
 refine⟨aa (by rw[hx];exact sh ht) λ_=>trivial,λW1 _=>?_⟩;have:(convert s t (.int k 0)).run P W1=.ok (.int k' 0) W1:=by have hw:k'.wrap 0=0:=(by cases k'<;>rfl);simp[convert,run_underlying hs,run_underlying ht,Conv.intToInt,hw]
 simp only[execOp,hx,UJ,this,UH,UI]
theorem Ho{a:Act}{W:World}{dst:Option Tmp}{ty:TypeId}{pos:String}{after:Array Edge}{guard:Option (Nat×Bool)}{x:Operand}(hx:a.eval x=.int .u8 0):mM Tryz.prog a ⟨dst,.index 9 (.const Ha) x,ty,pos,after,guard⟩ W (.int .u8 0):=by
 refine⟨aa (yh _ _ _) λ_=>trivial,λW1 _=>?_⟩;have:(Instr.index 9 Ha (.int .u8 0)).run Tryz.prog W1=.ok (.int .u8 0) W1:=by kernel_rfl
 have e:a.eval (.const Ha)=Ha:=rfl;simp only[execOp,hx,e,UJ,this,UH,UI]
theorem Hk{P:Program}{co:Bool}{E:Goroutine->World->Prop}{b:Frame}{a:Act}{k:List Item}{cs:List Frame}{W:World}{n:Nat}{l:List (Nat×Value)}{ops:Array Oper}{i d:Nat}{rest:List Nat}(hE:Closed P co E)(hk:b.kind≠.early){t yt:TypeId}{x y:Operand}{p q:Int}(hO:WN ops i=some (some d,.binOp .geq t x y yt,none))(hS:Vy n a l)(hd:d<n)(hx:a.eval x=.int .u64 p)(hy:a.eval y=.int .u64 q)(h:Z' E b k cs ops rest n d a l (.bool (decide (p>=q))) W):E (G (b.at a (.inRegion ops (i::rest)::k)) cs) W:=
 gZ hE hk hO hS hd _ (λ_ _ _=>lC hx hy λw=>rfl) h
set_option maxRecDepth 100000 in
set_option maxHeartbeats 1000000 in
theorem yA{co:Bool}(W:World):br Tryz.prog co 226 #[.int .u64 0] W λe W'=>e=.returned (.int .i64 0)∧Rv W W':=by
 intro E hE cs hc;have Yr:Vy 25 {tmps:=#[.int .u64 0]++Array.replicate 24 undef,defers:=[]} [(0,.int .u64 0)]:=⟨by simp,λt v e=>by
  simp only[au] at e;split at e;rename_i x;subst x;obtain rfl:=Oi e;kernel_rfl
  ·cases e⟩
 have he:Frame.enter Tryz.prog 226 #[.int .u64 0] .normal=(base 226).at {tmps:=#[.int .u64 0]++Array.replicate 24 undef,defers:=[]} [.code lB]:=by kernel_rfl
 rw[he];have Yh:({tmps:=#[.int .u64 0]++Array.replicate 24 undef,defers:=[]} : Act).defers=[]:=rfl;generalize ({tmps:=#[.int .u64 0]++Array.replicate 24 undef,defers:=[]} : Act)=a0 at Yr Yh ⊢;have hb:(base 226).kind≠.early:=by decide
 refine bU hE _ _ Sr ?_;refine aQ hE _ _ 1 rfl (by kernel_rfl) ?_;refine fq (d:=2) (x:=.const (.int .i64 0)) hE hb (by kernel_rfl) Yr (by decide) (.int .i64 0) rfl λa1 V1 d1=>?_;refine ao hE ?_;refine bU hE _ _ rfl ?_;refine bU hE _ _ rfl ?_;refine aQ hE _ _ 2 rfl (by kernel_rfl) ?_;refine dA (d:=3) (x:=.tmp 0) hE hb (by kernel_rfl) V1 (by decide) (.int .u64 0) (V1.ev rfl) λa2 Wt d2=>?_;refine Hk (d:=4) (t:=31) (yt:=31) (x:=.tmp 3) (y:=.const (.int .u64 4294967296)) hE hb (by kernel_rfl) Wt (by decide) (Wt.ev rfl) rfl λa3 XO d3=>?_;refine ao hE ?_;refine s_cond hE 4 _ _ rfl XO false rfl ?_;refine kl hE rfl ?_;refine bU hE _ _ rfl ?_;refine bU hE _ _ rfl ?_;refine aQ hE _ _ 2 rfl (by kernel_rfl) ?_;refine dA (d:=7) (x:=.tmp 0) hE hb (by kernel_rfl) XO (by decide) (.int .u64 0) (XO.ev rfl) λa4 YT d4=>?_;refine Hk (d:=8) (t:=31) (yt:=31) (x:=.tmp 7) (y:=.const (.int .u64 65536)) hE hb (by kernel_rfl) YT (by decide) (YT.ev rfl) rfl λa5 Xn d5=>?_;refine ao hE ?_;refine s_cond hE 8 _ _ rfl Xn false rfl ?_;refine kl hE rfl ?_;refine bU hE _ _ rfl ?_;refine bU hE _ _ rfl ?_;refine aQ hE _ _ 2 rfl (by kernel_rfl) ?_;refine dA (d:=13) (x:=.tmp 0) hE hb (by kernel_rfl) Xn (by decide) (.int .u64 0) (Xn.ev rfl) λa6 Y6 d6=>?_;refine Hk (d:=14) (t:=31) (yt:=31) (x:=.tmp 13) (y:=.const (.int .u64 256)) hE hb (by kernel_rfl) Y6 (by decide) (Y6.ev rfl) rfl λa7 YB d7=>?_;refine ao hE ?_;refine s_cond hE 14 _ _ rfl YB false rfl ?_;refine kl hE rfl ?_;refine bU hE _ _ rfl ?_;refine aQ hE _ _ 7 rfl (by kernel_rfl) ?_;refine dA (d:=19) (x:=.tmp 2) hE hb (by kernel_rfl) YB (by decide) (.int .i64 0) (YB.ev rfl) λa8 hS8 d8=>?_;refine dA (d:=20) (x:=.tmp 0) hE hb (by kernel_rfl) hS8 (by decide) (.int .u64 0) (hS8.ev rfl) λa9 hS9 d9=>?_;refine gZ (d:=21) (op:=.convert 31 5 (.tmp 20)) hE hb (by kernel_rfl) hS9 (by decide) (.int .u8 0) (λ_ _ _=>uE (hS9.ev rfl) Tryz.underlying31 Tryz.underlying5) λa10 Y7 d10=>?_;refine gZ (d:=22) (op:=.index 9 (.const Ha) (.tmp 21)) hE hb (by kernel_rfl) Y7 (by decide) (.int .u8 0) (λ_ _ _=>Ho (Y7.ev rfl)) λa11 ZB d11=>?_;refine gZ (d:=23) (op:=.convert 5 3 (.tmp 22)) hE hb (by kernel_rfl) ZB (by decide) (.int .i64 0) (λ_ _ _=>uE (ZB.ev rfl) Tryz.underlying5 Tryz.underlying3) λa12 Z9 d12=>?_;refine Hl (d:=24) (t:=3) (yt:=3) (x:=.tmp 19) (y:=.tmp 23) hE hb (by kernel_rfl) Z9 (by decide) (Z9.ev rfl) (Z9.ev rfl) λa13 Z8 d13=>?_;refine fq (d:=2) (x:=.tmp 24) hE hb (by kernel_rfl) Z8 (by decide) (.int .i64 0) (Z8.ev (by rfl)) λa14 hS14 d14=>?_;refine ao hE ?_;refine Jp hE rfl ?_;have hr:Tryz.f226.results=#[.tmp 2]:=by kernel_rfl
 refine hc (.returned (.int .i64 0)) W _ ⟨rfl,Rv.refl W⟩ rfl ⟨rfl,?_,rfl,_,Tryz.func226,?_⟩;exact d14.trans (d13.trans (d12.trans (d11.trans (d10.trans (d9.trans (d8.trans (d7.trans (d6.trans (d5.trans (d4.trans (d3.trans (d2.trans (d1.trans Yh)))))))))))));rw[results_tmp hr];have:=hS14.ev (t:=2) rfl;exact Uo (λv=>Result.ok v W) this
set_option maxRecDepth 100000 in
noncomputable def M1:UO cx:=qf 226 Tryz.call226 (cZ (fl:=[]) (fn:=Tryz.f226) Tryz.func226 (by kernel_rfl)) (bh (VK .u64)) (λx=>[x=0]) (λ_=>.v (.int .i64 0)) λx ze W vs hp hG hz hd=>by obtain rfl:x=0:=hp;obtain⟨u,w,rfl,rfl,rfl⟩:=hd;exact(yA W).mono λe W' ⟨h1,h2⟩=>⟨_,λ_ _ _=>False,h1,cQ h2,λ_ _ _ h=>h.elim,rfl⟩
end Go.Proofs.YtgigkennhdolpaaGreatDoor
namespace Go.Proofs.YtgigkennhdolpaaGreatDoor
open Go.RowKit
noncomputable def Sx:V3 cx:=⟨179,Tryz.call179,Tryz.f179,Tryz.func179,[],[],[],0,by kernel_rfl⟩
noncomputable def P6:V3 cx:=⟨217,Tryz.call217,Tryz.f217,Tryz.func217,[6],[],[],1,by kernel_rfl⟩
noncomputable def Sw:V3 cx:=⟨178,Tryz.call178,Tryz.f178,Tryz.func178,[],[],[],1,by kernel_rfl⟩
def OI:SV:=.v (.func (.func 120) #[] #[])
set_option maxRecDepth 100000 in
set_option maxHeartbeats 2000000 in
theorem BO:∀x:SV×SV,aH ((λx=>[x.1=fZ,x.2=OI]) x)->aM (C:=cx) [M1] [Sx,Sw,P6] 3 ⟨[],[],[],1⟩ Tryz.f119 ((aL V4 V4).enc x) λv H _=>ae ((λ_=>.tup []) x) H v:=by
 intro⟨x,f⟩ ⟨hx,hf⟩;replace hx:x=fZ:=hx;replace hf:f=OI:=hf;subst hx hf;refine Ai rfl ?_;refine Ai ⟨by decide,by decide⟩ ?_;refine Ai (λhb=>?_) (λhb=>Up hb (by decide));refine Ai (λhb=>Up hb (by decide)) (λhb=>?_);repeat' (first|refine Ai ?_ ?_|intro _|exact rfl)
 all_goals first|exact trivial|(conv=>whnf)
noncomputable def JJ:UO cx:=ai 119 Tryz.call119 (aL V4 V4) _ _ (λ_=>⟨[],[],[],1⟩) [] (λ_=>rfl) follows Tryz.func119 (by kernel_rfl) BO
end Go.Proofs.YtgigkennhdolpaaGreatDoor
namespace Go.Proofs.YtgigkennhdolpaaGreatDoor
section
variable {PP:Program}
def Cx.par(C:Cx PP):Cx PP:={C with co:=true}
def UO.lift{C:Cx PP}(hc:C.co=false)(c:UO C):UO C.par where
 f:=c.f
 en:=c.en
 ns:=c.ns
 run:=c.run
 fresh:=c.fresh
 own:=c.own
 wr:=c.wr
 frz:=c.frz
 ok:=λze W args vs ob out hg hz hd hr ho=>by have h:=c.ok ze W args vs ob out hg hz hd hr ho;rw[hc] at h;exact br.lift (co:=true) h
end
end Go.Proofs.YtgigkennhdolpaaGreatDoor
namespace Go.Proofs.YtgigkennhdolpaaGreatDoor
open Go.Conc Go.RowKit
abbrev Wa:Cx Tryz.prog:=cx.par
noncomputable def ud:List (UO Wa):=[iE.lift rfl,tx.lift rfl,Fq.lift rfl]
noncomputable def preB:Code:=.seq (Ve pB) (.seq (Ve p1) (.seq (Ve p3) (Ve p4)))
theorem R0:pB=.seq (Ve pB) p1:=by kernel_rfl
theorem R7:p1=.seq (Ve p1) p3:=by kernel_rfl
theorem R6:p3=.seq (Ve p3) p4:=by kernel_rfl
theorem R5:p4=.seq (Ve p4) p5:=by kernel_rfl
def Has(st:St)(t:Nat)(v:SV):Prop:=∃q,look st.sl t=some q∧q.v=v∧q.g=[]
structure OO (w:U8) (x:Xi) (st:St):Prop where
 s2:Has st 2 (.v (.int .i64 1))
 s3:Has st 3 (.p 0 0)
 s4:Has st 4 (.p 1 0)
 s6:Has st 6 (.p 2 0)
 s9:Has st 9 (.p 4 0)
 s10:Has st 10 (.p 6 0)
 h0:look st.H 0=some (.lay [.v (.int .i64 w.tick),w.l.sv] 28)
 h1:look st.H 1=some (.lay x.cells 33)
 h2:look st.H 2=some (.lay [.il .i64 0,yk] 28)
 h3:look st.H 3=some (.lst 3 2 w.l.n (λi=>(w.l.e i).cells) 42)
 h4:look st.H 4=some (.lay [.v (.int .i64 w.tick),.g 3 3 2 0 w.l.n] 28)
 h5:look st.H 5=some (.lst 5 1 w.l.n (λ_=>[yk]) 47)
 h6:look st.H 6=some (.lay [.g 5 5 1 0 w.l.n] 189)
 nm:st.nm=7
set_option maxRecDepth 100000 in
set_option maxHeartbeats 2000000 in
theorem Pn(w:U8)(x:Xi)(hv:w.valid=true)(hs:w.l.Sm)(hn:w.l.n<=1000)(hc:∀i,i<w.l.n->(w.l.e i).l.n<=1000)(hx:x.uk):ev (C:=Wa) ud 62 0 (jN (C:=Wa) ud [] 0) (cw (C:=Wa) []) ⟨[1001],[],[],1⟩ preB ⟨bL 0 [w.sv,x.sv,.v (.int .i64 1)],[],0,0,[],[]⟩ (λex st=>ex=.normal∧OO w x st):=by refine Ai ⟨λ_ _ _ _=>trivial,hs⟩ ?_;refine Ai (λhw=>?_) (λhw=>by have hw:(!w.valid)=true:=hw;rw[hv] at hw;cases hw);refine Ai ⟨λ_ _=>trivial,λi hi=>Up (hx.p▸hi) (F' _),hx⟩ ?_;refine Ai (λhb=>?_) (λhb=>Up hb (by decide));refine Ai (λhb=>Up hb (by decide)) (λhb=>?_);refine Ai ⟨λ_ _ _ _=>trivial,hc,hn⟩ ?_;refine Ai ⟨Int.natCast_nonneg _,Int.le_refl _,(Nat.le_trans (show w.l.n<=1000 from hn) (by decide)),(show w.l.n*24<=140737488355328 by omega)⟩ ?_;refine Ai rfl ?_;exact⟨⟨_,rfl,rfl,rfl⟩,⟨_,rfl,rfl,rfl⟩,⟨_,rfl,rfl,rfl⟩,⟨_,rfl,rfl,rfl⟩,⟨_,rfl,rfl,rfl⟩,⟨_,rfl,rfl,rfl⟩,rfl,rfl,rfl,rfl,rfl,rfl,rfl,rfl⟩
set_option maxHeartbeats 2000000
section
variable {PP:Program}{C:Cx PP}{nt:Nat}{w0:World}{UM:Names}
theorem pq{st:St}{ρ:Names}{a:Act}{W:World}(hR:Rp C nt w0 UM st ρ a W){t:Nat}{v:SV}(h:Has st t v):∃x,den ρ v x∧a.tmps[t]? = some x:=by obtain⟨q,h1,rfl,h3⟩:=h;exact hR.cA t q h1 h3
end
section
variable {w:U8}{x:Xi}{st:St}{w0:World}{UM ρ:Names}{a:Act}{W:World}
theorem Pq(P:OO w x st)(hx:x.systems.n=0)(hR:Rp Wa 62 w0 UM st ρ a W){b3 b4 b9 U5:Nat}(e3:ρ.n 0=some b3)(e4:ρ.n 1=some b4)(e9:ρ.n 4=some b9)(e10:ρ.n 6=some U5):Nonempty (KE W w.l.n b4 b3 b9 U5):=by
 have one:∀{n b b':Nat},ρ.n n=some b->ρ.n n=some b'->b=b':=λh1 h2=>Oi (h1.symm.trans h2);obtain⟨q0,vs0,n0,d0,k0,-,-⟩:=hR.base.blk _ _ P.h0;obtain⟨q1,vs1,n1,d1,k1,-,-⟩:=hR.base.blk _ _ P.h1;obtain⟨q4,vs4,n4,d4,k4,-,-⟩:=hR.base.blk _ _ P.h4;obtain⟨q6,vs6,n6,d6,k6,-,-⟩:=hR.base.blk _ _ P.h6;obtain⟨l3,v3,o3,N3,c3,r3⟩:=hR.base.blk _ _ P.h3;obtain⟨l5,v5,o5,N5,c5,r5⟩:=hR.base.blk _ _ P.h5;obtain rfl:=one e3 n0;obtain rfl:=one e4 n1;obtain rfl:=one e9 n4;obtain rfl:=one e10 n6;obtain⟨x0,y0,rfl,rfl,x1,y1,rfl,dw,rfl⟩:=d0;obtain⟨ad,cap,rfl,-,-⟩:=dw;obtain⟨x0,y0,rfl,⟨aS0,ks,rfl,-,-⟩,x1,y1,rfl,⟨ap,kp,rfl,-,-⟩,x2,y2,rfl,rfl,x3,y3,rfl,rfl,rfl⟩:=d1;have k1:W.heap[b4]? = some (.cells #[.slice aS0 0 ks,.slice ap x.progs.n kp,.int .u64 x.seed,.int .i64 x.fuel] 33 (0,0)):=by rw[hx] at k1;exact k1
 obtain⟨x0,y0,rfl,rfl,x1,y1,rfl,dg,rfl⟩:=d4;obtain⟨l,g1,g2,g3,g4,sp,rfl,g6⟩:=dg;obtain rfl:l3=l:=Oi (v3.symm.trans g1);obtain⟨x0,y0,rfl,df,rfl⟩:=d6;obtain⟨l',f1,f2,f3,f4,sf,rfl,f6⟩:=df;obtain rfl:l5=l':=Oi (v5.symm.trans f1);have cE:0<w.l.n->∃be u,sp=some ⟨be,0,none⟩∧WV W be u 42∧∀i,i<w.l.n->∃id p n k,u[0+i*2]? = some (.int .i64 id)∧u[0+i*2+1]? = some (.slice p n k):=λhN=>by obtain⟨be,u,ha,hk,-,-,-,YQ⟩:=r3 (by omega);obtain⟨be',ha',hsp⟩:=g6 (by omega);rw[ha] at ha';obtain rfl:be=be':=(by injection ha' with x;injection x);refine⟨be,u.toArray,by rw[hsp],hk,λi hi=>?_⟩;obtain⟨us,hd,-,hc⟩:=YQ i hi;obtain⟨p0,t0,rfl,rfl,p1,t1,rfl,⟨ad2,cap2,rfl,-,-⟩,rfl⟩:=hd;refine⟨(w.l.e i).iD,ad2,(w.l.e i).l.n,cap2,?_,?_⟩;have:=hc 0 _ rfl;simpa using this;have:=hc 1 _ rfl;simpa using this
 have cF:0<w.l.n->∃bf u,sf=some ⟨bf,0,none⟩∧WV W bf u 47∧∀i,i<w.l.n->u[0+i]? = some (.slice none 0 0):=λhN=>by obtain⟨be,u,ha,hk,-,-,-,YQ⟩:=r5 (by omega);obtain⟨be',ha',hsp⟩:=f6 (by omega);rw[ha] at ha';obtain rfl:be=be':=(by injection ha' with x;injection x);refine⟨be,u.toArray,by rw[hsp],hk,λi hi=>?_⟩;obtain⟨us,hd,-,hc⟩:=YQ i hi;obtain⟨p0,t0,rfl,rfl,rfl⟩:=hd;have:=hc 0 _ rfl;simpa using this
 by_cases hN:0<w.l.n;obtain⟨be,u,rfl,hk,YQ⟩:=cE hN;obtain⟨bf,uf,rfl,hkf,helf⟩:=cF hN;exact⟨⟨_,_,_,u,uf,_,_,_,_,be,0,_,bf,0,_,_,_,_,_,_,_,_,_,k4,_,_,rfl,λ_=>rfl,k6,rfl,λ_=>rfl,k0,rfl,k1,λ_=>hk,YQ,λ_=>hkf,helf⟩⟩;exact⟨⟨_,_,_,#[],#[],_,_,_,_,0,0,_,0,0,_,_,_,_,_,_,_,_,_,k4,_,_,rfl,λh=>Up h hN,k6,rfl,λh=>Up h hN,k0,rfl,k1,λh=>Up h hN,λi hi=>Up hi (by omega),λh=>Up h hN,λi hi=>Up hi (by omega)⟩⟩
end
def stB(w:U8):St:=⟨[sl 6 (.p 2 0),sl 9 (.p 4 0),sl 10 (.p 6 0)],[(2,.lay [.il .i64 0,yk] 28),(3,.lst 3 2 w.l.n (λi=>(w.l.e i).cells) 42),(4,.lay [.v (.int .i64 w.tick),.g 3 3 2 0 w.l.n] 28),(5,.lst 5 1 w.l.n (λ_=>[yk]) 47),(6,.lay [.g 5 5 1 0 w.l.n] 189)],7,0,[],[]⟩
noncomputable def Qe:List (UO Wa):=[Bz.lift rfl,JJ.lift rfl]
def oZ(w:U8):SV:=.tup [w.sv,fZ,.v (.int .i64 0)]
set_option maxRecDepth 100000 in
theorem Lb(w:U8)(hn:w.l.n<=1000):ev (C:=Wa) Qe 62 0 (jN (C:=Wa) Qe [] 0) (cw (C:=Wa) []) ⟨[],[],[],1⟩ p19 (stB w) (tc Wa Tryz.f79.results.toList λv H _=>ae (oZ w) H v):=by
 refine Ai ⟨_,rfl,hn⟩ ?_;refine Ai ⟨rfl,rfl⟩ ?_;repeat' (first|refine Ai ?_ ?_|intro _|exact rfl)
 all_goals first|(rw[B'];done)|(rw[B'];rfl)|exact Up ‹_<0› (F' _)
def L2(b3 b4 b6 b9 U5:Nat):List (Nat×Value):=[(2,de 1),(3,ptr b3),(4,ptr b4),(6,ptr b6),(9,ptr b9),(10,ptr U5)]
theorem PW{b3 b4 b6 b9 U5:Nat} : Q0 (L2 b3 b4 b6 b9 U5) b3 b4 b9 U5:=⟨λt ht=>by unfold L2;simp only[au];rw[Uv (by omega),Uv (by omega),Uv (by omega),Uv (by omega),Uv (by omega),Uv (by omega)];rfl,rfl,rfl,rfl,rfl,rfl⟩
set_option maxRecDepth 100000 in
theorem EG{w:U8}{x:Xi}{ze:Nat->Nat->Value->Prop}{W:World}{vs:List Value}(hv:w.valid=true)(hs:w.l.Sm)(hn:w.l.n<=1000)(hc:∀i,i<w.l.n->(w.l.e i).l.n<=1000)(hx:x.uk)(hG:Wa.WT W)(hz:∀b i c,ze b i c->W.cell? ⟨b,i,none⟩=some c∧c.oneCell'=true)(hd:aj (aD ze) [w.sv,x.sv,.v (.int .i64 1)] vs) :
  br Tryz.prog true 79 vs.toArray W λe W'=>∃v val H' Vv UL,e=.returned val∧ae (oZ w) H' v∧Mem Wa W (aD ze).VE Vv UL W'∧(∀n sb,look H' n=some sb->cS UL W' n sb)∧den UL v val:=by
 refine Fx λΦ w00 S0 cs Xv=>?_;have hE:=mw (P:=Tryz.prog) (Φ:=Φ) (w00:=w00) (S0:=S0) (co:=true);refine l8 hE Tryz.func79 (c:=pB) (by kernel_rfl) Xv ?_;intro k h3;have hb:(eK 79).kind≠.early:=by decide
 have VX:(eK 79).roundOf=none:=rfl;have dN:∀n b,(aD ze).VE.n n=some b->n<0:=λn b h=>by cases h
 have dV:∀e l,(aD ze).VE.v e=some l->e<0∧l.o<0:=λn b h=>by cases h
 have dK:∀m i l,(aD ze).VE.k m i=some l->m<0:=λn i b h=>by cases h
 have hR0:=xS (C:=Wa) (n:=62) (show ([w.sv,x.sv,.v (.int .i64 1)]:List SV).length<=62 from(by decide:3<=62)) hG hz hd;have hnt:Tryz.f79.ntmps=62:=by kernel_rfl
 rw[hnt];refine vS (C:=Wa) (Γ:=ud) (h:=⟨[1001],[],[],1⟩) hE (c6 (C:=Wa) (Γ:=ud) (Fs:=[]) follows 0) follows dN dV dK hb VX R0 rfl (by kernel_rfl) (Pn w x hv hs hn hc hx) (λ_ _ h=>h.1) hR0 λst1 Vq a1 W1 he1 hR1=>?_;refine vS (C:=Wa) (Γ:=ud) (h:=⟨[1001],[],[],1⟩) hE (c6 (C:=Wa) (Γ:=ud) (Fs:=[]) follows 0) follows dN dV dK hb VX R7 rfl (by kernel_rfl) he1 (λ_ _ h=>h.1) hR1 λZe Wy a2 W2 he2 hR2=>?_;refine vS (C:=Wa) (Γ:=ud) (h:=⟨[1001],[],[],1⟩) hE (c6 (C:=Wa) (Γ:=ud) (Fs:=[]) follows 0) follows dN dV dK hb VX R6 rfl (by kernel_rfl) he2 (λ_ _ h=>h.1) hR2 λst3 ρ3 a3 W3 he3 hR3=>?_;refine PZ (C:=Wa) (Γ:=ud) (h:=⟨[1001],[],[],1⟩) hE (c6 (C:=Wa) (Γ:=ud) (Fs:=[]) follows 0) follows dN dV dK hb VX R5 (by kernel_rfl) he3 (λ_ _ h=>h.1) hR3 λst4 ρ4 a4 W4 hK4 hR4=>?_;have P:=hK4.2;obtain⟨x2,rfl,t2⟩:=pq hR4 P.s2;obtain⟨x3,⟨b3,n3,rfl⟩,t3⟩:=pq hR4 P.s3;obtain⟨x4,⟨b4,n4,rfl⟩,t4⟩:=pq hR4 P.s4;obtain⟨x6,⟨b6,n6,rfl⟩,t6⟩:=pq hR4 P.s6;obtain⟨x9,⟨b9,n9,rfl⟩,t9⟩:=pq hR4 P.s9;obtain⟨x10,⟨U5,n10,rfl⟩,t10⟩:=pq hR4 P.s10;have hS:Vy 62 a4 (L2 b3 b4 b6 b9 U5):=⟨hR4.base.sz,λt v e=>by
  unfold L2 at e;simp only[au] at e;repeat' split at e
  (all_goals first|(cases e;done)|skip);all_goals (obtain rfl:=Oi e;subst_vars;assumption)⟩
 refine LI hb rfl PW (N:=w.l.n) (λW1 r=>Pq P hx.s (hR4.later r) n3 n4 n9 n10) (by omega) hS hR4.base.df λa5 W5 Xn hd5 r5=>?_;have hR5:Rp Wa 62 W (aD ze).VE (stB w) ρ4 a5 W5:=by
  refine Ht hR4 r5 Xn.1 hd5 (P.nm▸rfl) (λn sb hn=>?_) (λt q hq=>?_)
  ·simp only[au] at hn;repeat' split at hn
   (all_goals first|(cases hn;done)|skip);all_goals (obtain rfl:=Oi hn;subst_vars)
   exact P.h2;exact P.h3;exact P.h4;exact P.h5;exact P.h6
  have YZ:look ((6,_)::(9,_)::(10,_)::[]) t=some q:=hq;simp only[au] at YZ;repeat' split at YZ
  (all_goals first|(cases YZ;done)|skip);all_goals (obtain rfl:=Oi YZ;subst_vars)
  exact⟨rfl,_,⟨b6,n6,rfl⟩,Xn.2 6 _ rfl⟩;exact⟨rfl,_,⟨b9,n9,rfl⟩,Xn.2 9 _ rfl⟩;exact⟨rfl,_,⟨U5,n10,rfl⟩,Xn.2 10 _ rfl⟩
 refine(zh (C:=Wa) (UM:=(aD ze).VE) (c6 (C:=Wa) (Γ:=Qe) (Fs:=[]) follows 0) follows dN dV dK p19 (stB w) _ (by kernel_rfl) (Lb w hn) ρ4 a5 W5 hR5) _ hE _ k cs hb VX λe a6 W6 ⟨x',st6,ρ6,ZN,hK6,hR6⟩=>h3 e a6 W6 ?_;have key:qC Wa Tryz.f79.results.toList st6 (λv=>ae (oZ w) st6.H v)->a6.defers=[]∧∃v,(results Tryz.f79 a6.tmps).run Tryz.prog W6=.ok v W6∧∃v' val H' Vv UL,Ending.returned v=.returned val∧ae (oZ w) H' v'∧Mem Wa W (aD ze).VE Vv UL W6∧(∀n sb,look H' n=some sb->cS UL W6 n sb)∧den UL v' val:=by intro hk;obtain⟨v,h1,v',H',Vv,h2,h3,h4,h5⟩:=Bv (K:=λv H _=>ae (oZ w) H v) rfl hR6 hk;exact⟨hR6.base.df,v,h1,v',v,H',Vv,ρ6,rfl,h2,h3,h4,h5⟩
 subst ZN;cases x' with
 | normal=>exact key hK6
 | exit i=>exact hK6.elim
 | ret=>exact key hK6
set_option maxRecDepth 100000 in
noncomputable def wZ:UO Wa:=qf 79 Tryz.call79 (cZ (fl:=[1001]) (fn:=Tryz.f79) Tryz.func79 (by kernel_rfl)) (ib c8 mW (VK .i64)) (λx=>[x.1.valid=true,x.1.l.Sm,x.1.l.n<=1000,∀i,i<x.1.l.n->(x.1.l.e i).l.n<=1000,x.2.1.uk,x.2.2=1]) (λx=>oZ x.1) λx ze W vs hp hG hz hd=>by obtain⟨w,x,n⟩:=x;obtain⟨hv,hs,hn,hc,hx,rfl⟩:=hp;refine(EG hv hs hn hc hx hG hz hd).mono λe W' ⟨v,val,H',Vv,UL,h1,h2,h3,h4,h5⟩=>?_;obtain⟨q1,q2,q3⟩:=ox h2 h3 h4 h5;exact⟨val,(zR UL W').z,h1,q1,q2,q3⟩
end Go.Proofs.YtgigkennhdolpaaGreatDoor
