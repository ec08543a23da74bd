/- Company, 50: workers.Parallel with one worker, without Systems: the channel, the group, and the phase. workers.copied. slices.Concat of nothing but nil slices; slices.SortFunc of the nil slice. math/bits.Len64 of nought, by hand (it reads a table in a string). slices.SortFunc of the empty list. Company, 12: a contract that starts no goroutine holds, too, where goroutines may be started; the contract of a call that starts goroutines. Company, 51: workers.Parallel: its beginning and its end, by the engine. -/
import Derived.Test.YtgigkennhdolpaaGreatDoorM44
import Derived.Test.YtgigkennhdolpaaGreatDoorM21
import Derived.Test.YtgigkennhdolpaaGreatDoorM29
import Derived.Test.YtgigkennhdolpaaGreatDoorM5
import Derived.Test.YtgigkennhdolpaaGreatDoorM20
namespace Go.Proofs.YtgigkennhdolpaaGreatDoor
open Go.Conc Go.RowKit
open Go.Conc.Lib Go.ConcR.Gen Go.ConcN.Gen
open Go.ConcR (KK wgBlock WgAt stA smA rd wr mk DC0)
theorem set_new{W4 W6:World}{b:Nat}{u v:Value}{t:TypeId}(r:Rv W4 W6)(hb:W6.heap[b]? = some (.cells #[u] t (0,0)))(hn:W4.heap.size≤b):Rv W4 (W6.setRow b #[v])∧(W6.setRow b #[v]).heap[b]? = some (.cells #[v] t (0,0)):=by
 refine⟨⟨r.os,r.tape,r.output,fun bb o h=>?_⟩,setRow_heap W6 b _ _ t (0,0) hb⟩
 have h6:=r.heap _ _ h
 have hl:=(Array.getElem?_eq_some_iff.1 h).1
 have hne:¬b=bb:=by omega
 simp only[World.setRow,Array.getElem?_modify,if_neg hne]
 exact h6
section
variable {b3 b4 b9 b10 N:Nat}{b:Frame}{k:List Item}{cs:List Frame}{l:List (Nat×Value)}{Φ:Value→World→Prop}{w00:World}{S0:Nat→Prop}
set_option maxRecDepth 100000 in
set_option maxHeartbeats 2000000 in
theorem par_mid(hb:b.kind≠.early)(hf:b.fn=79)(hl:LowP l b3 b4 b9 b10){W:World}(X:∀W1,Rv W W1→Nonempty (ParAt W1 N b4 b3 b9 b10))(hN:N<9223372036854775807)
  {a:Act} (hS:Sls 62 a l) (hd:a.defers=[]) (hK:∀a' W',Sls 62 a' l→a'.defers=[]→Rv W W'→Er Tryz.prog Φ w00 S0 (G (b.at a' (.code p19::k)) cs) W') :
  Er Tryz.prog Φ w00 S0 (G (b.at a (.code p5::k)) cs) W:=by
 refine Er.grown fun W1 r1 hz=>?_
 obtain⟨X⟩:=X W1 r1
 have hE:=kZ (P:=Tryz.prog) (Φ:=Φ) (w00:=w00) (S0:=S0) (co:=true)
 have dr:∀{a1:Act} {v:Value} {d:Nat} {l':List (Nat×Value)},Sls 62 a1 ((d,v)::l')→look l' d=none→Sls 62 a1 l':=fun h hd=>h.drop hd
 obtain⟨infi,hinf,-⟩:=nN (t:=3) rfl
 refine bU hE _ _ p5_is ?_
 refine aO hE _ _ 3 rfl (by kernel_rfl) ?_
 have hO0:opk o5 0=some (some 38,.makeChan 190 (.const (.int .i64 0)),none):=by kernel_rfl
 obtain⟨ty0,pos0,after0,ho0⟩:=dT hO0
 refine e_mem hE hb ho0 rfl (ns_makeChan (e:=3) (dir:=.both)) fun W2 r2=>⟨_,_,ex_makeChan kR hinf rfl,?_⟩
 have hc2:=og W2 (.chan 0 #[] false 0 0 false)
 have ra2:=alloc_rv W2 (.chan 0 #[] false 0 0 false)
 have hcs:W1.heap.size≤W2.heap.size:=r2.size
 generalize W2.alloc (.chan 0 #[] false 0 0 false)=W3 at hc2 ra2 ⊢
 generalize W2.heap.size=c at hc2 hcs ⊢
 have r3:=r2.trans ra2
 have hS1:Sls 62 (a.put (some 38) (.chan (some c))) ((38,.chan (some c))::l):=hS.put (by decide) _
 show Er Tryz.prog Φ w00 S0 (G (b.at (a.put (some 38) (.chan (some c))) _) cs) W3
 have hd1:(a.put (some 38) (.chan (some c))).defers=[]:=hd
 generalize a.put (some 38) (.chan (some c))=a1 at hS1 hd1 ⊢
 have hO1:opk o5 1=some (some 11,.alloc 190,none):=by kernel_rfl
 obtain⟨ty1,pos1,after1,ho1⟩:=dT hO1
 refine e_mem hE hb ho1 rfl ns_alloc' fun W4 r4=>⟨_,_,ex_alloc' Tryz.zeroValue190,?_⟩
 have h11:=og W4 (.cells (Value.chan none).cells 190)
 have ra4:=alloc_rv W4 (.cells (Value.chan none).cells 190)
 have hc4:=r4.heap _ _ hc2
 have hcl:=(Array.getElem?_eq_some_iff.1 hc4).1
 have r14:=r3.trans r4
 have hs14:=r14.size
 generalize W4.alloc (.cells (Value.chan none).cells 190)=W5 at h11 ra4 ⊢
 have hb11:W4.heap.size=W4.heap.size:=rfl
 generalize hq:W4.heap.size=b11 at h11 ⊢
 have hS2:Sls 62 (a1.put (some 11) (ptr b11)) ((11,ptr b11)::(38,.chan (some c))::l):=hS1.put (by decide) _
 show Er Tryz.prog Φ w00 S0 (G (b.at (a1.put (some 11) (ptr b11)) _) cs) W5
 have hd2:(a1.put (some 11) (ptr b11)).defers=[]:=hd1
 generalize a1.put (some 11) (ptr b11)=a2 at hS2 hd2 ⊢
 have hO2:opk o5 2=some (none,.store 190 (.tmp 11) (.tmp 38),none):=by kernel_rfl
 obtain⟨ty2,pos2,after2,ho2⟩:=dT hO2
 refine e_none hE hb ho2 rfl (ab (jF _ _ _) fun _=>trivial) fun W6 r6=>⟨_,ex_store1 Tryz.sizeOf190 (hS2.ev rfl) (r6.heap _ _ h11) (hS2.ev rfl) rfl rfl,?_⟩
 obtain⟨r46,h11b⟩:=set_new (v:=.chan (some c)) (ra4.trans r6) (r6.heap _ _ h11) (by omega)
 generalize W6.setRow b11 #[.chan (some c)]=W7 at r46 h11b ⊢
 show Er Tryz.prog Φ w00 S0 (G (b.at a2 _) cs) W7
 refine ao hE ?_
 refine bU hE _ _ p6_is ?_
 refine aO hE _ _ 1 rfl (by kernel_rfl) ?_
 have hO3:opk o6 0=some (some 12,.alloc 198,none):=by kernel_rfl
 obtain⟨ty3,pos3,after3,ho3⟩:=dT hO3
 refine e_mem hE hb ho3 rfl ns_alloc' fun W8 r8=>⟨_,_,ex_alloc' Tryz.zeroValue198,?_⟩
 have hWg:=og W8 (wgBlock link.tWg 0 0)
 have ra8:=alloc_rv W8 (wgBlock link.tWg 0 0)
 have hW8:W7.heap.size≤W8.heap.size:=r8.size
 have h11c:=(Array.getElem?_eq_some_iff.1 h11b).1
 have hc7:=r46.heap _ _ hc4
 have hcl7:=(Array.getElem?_eq_some_iff.1 hc7).1
 have r19:=((r14.trans r46).trans r8).trans ra8
 show Er Tryz.prog Φ w00 S0 (G (b.at (a2.put (some 12) (ptr W8.heap.size)) _) cs) (W8.alloc (wgBlock link.tWg 0 0))
 have hc9:=ra8.heap _ _ (r8.heap _ _ hc7)
 have h119:=ra8.heap _ _ (r8.heap _ _ h11b)
 generalize W8.alloc (wgBlock link.tWg 0 0)=W9 at hWg r19 hc9 h119 ⊢
 generalize W8.heap.size=Wg at hWg hW8 ⊢
 have hS3:Sls 62 (a2.put (some 12) (ptr Wg)) ((12,ptr Wg)::(11,ptr b11)::l):=((hS2.put (t:=12) (by decide) (ptr Wg))).sub fun t u e=>by
  simp only[av] at e ⊢
  split at e
  ·rename_i x;rw[if_pos x];exact e
  ·rename_i m1
   rw[if_neg m1]
   split at e
   ·rename_i x;rw[if_pos x];exact e
   ·rename_i m2
    have n38:¬(38=t):=fun x=>by rw[←x,hl.free 38 (by omega)] at e;cases e
    rw[if_neg m2,if_neg n38]
    exact e
 have hd3:(a2.put (some 12) (ptr Wg)).defers=[]:=hd2
 generalize a2.put (some 12) (ptr Wg)=a3 at hS3 hd3 ⊢
 refine ao hE ?_
 refine bU hE _ _ p7_is ?_
 refine bU hE _ _ rfl ?_
 refine aO hE _ _ 2 rfl (by kernel_rfl) ?_
 have lk:∀{t:Nat} {v:Value},look l t=some v→look ((12,ptr Wg)::(11,ptr b11)::l) t=some v:=fun {t v} h=>by
  have n2:∀z,z=11∨z=12→¬(z=t):=fun z hz x=>by rw[←x,hl.free z (by omega)] at h;cases h
  simp only[av]
  rw[if_neg (n2 12 (by omega)),if_neg (n2 11 (by omega))]
  exact h
 refine db (d:=39) (x:=.tmp 2) hE hb (by kernel_rfl) hS3 (by decide) (cX 1) (hS3.ev (lk hl.n)) fun a4 hS4 d4=>?_
 refine db (d:=40) (x:=.const (.int .i64 0)) hE hb (by kernel_rfl) hS4 (by decide) (cX 0) rfl fun a5 hS5 d5=>?_
 refine ao hE ?_
 refine jv hE 0 _ rfl (s_loop hE _ rfl ?_)
 refine bU hE _ _ pX1_is ?_
 refine aO hE _ _ 1 rfl (by kernel_rfl) ?_
 refine s_lss (d:=41) (t:=3) (yt:=3) (x:=.tmp 40) (y:=.tmp 39) hE hb (by kernel_rfl) hS5 (by decide) (hS5.ev rfl) (hS5.ev rfl) fun a6 hS6 d6=>?_
 refine ao hE ?_
 refine bU hE _ _ rfl ?_
 refine fW hE 41 _ _ rfl hS6 true (by rw[av,if_pos rfl];rfl) ?_
 refine ju hE rfl ?_
 refine bU hE _ _ rfl ?_
 refine jv hE 1 _ rfl ?_
 refine bU hE _ _ rfl ?_
 refine aO hE _ _ 1 rfl (by kernel_rfl) ?_
 have hS7:Sls 62 a6 ((40,cX 0)::(39,cX 1)::(12,ptr Wg)::(11,ptr b11)::l):=hS6.drop (by
  simp only[av]
  rw[if_neg (by decide),if_neg (by decide),if_neg (by decide),if_neg (by decide)]
  exact hl.free 41 (by omega))
 have hO9:opk o9 0=some (some 42,.call ⟨.value (.func 113),#[.tmp 12,.const (.int .i64 1)],#[198,3]⟩,none):=by kernel_rfl
 obtain⟨ty9,pos9,after9,ho9⟩:=dT hO9
 refine e_enter hE hb ho9 rfl (f:=113) (args:=#[ptr Wg,.int .i64 1]) (mL (x:=.func 113) rfl rfl (fun args=>iB Tryz.func113 (by kernel_rfl) args)) (fun Wx _=>?_) ?_
 ·have e12:=hS7.ev (t:=12) rfl
  exact mZ (x:=.func 113) rfl rfl Tryz.call113 (by simp[e12];rfl)
 ·exact par_phase hb hf hl X hN hz r19 hcs (by omega) (by omega) (by omega) (by omega) (by omega) hWg hc9 h119 hS7 (d6.trans (d5.trans (d4.trans hd3))) fun a' W' hS' hd' r'=>hK a' W' hS' hd' (r1.trans r')
end
end Go.Proofs.YtgigkennhdolpaaGreatDoor
namespace Go.Proofs.YtgigkennhdolpaaGreatDoor
open Go.RowKit
def zWc:List SV:=[.il .i64 0,.v (.slice none 0 0)]
def entC(e:Ent):List SV:=[.v (.int .i64 e.iD),e.l.sv]
def copyC(w:Wor):Cut:=⟨Nat,fun k=>k≤w.l.n,fun k=>⟨[sl 2 (.p 1 0),sl 3 (.p 2 0),sl 10 w.l.sv,sl 11 (i64 w.l.n),sl 12 (i64 k)],
 [(1,.lay zWc 28),(2,.lay [.v (.int .i64 w.tick),.g 3 4 2 0 k] 28),(3,.lst 4 2 k (fun i=>entC (w.l.e i)) 42)],5,0,[],[]⟩,fun k=>w.l.n-k⟩
theorem mw{α:Type}{k i:Nat}(f:Nat→α)(h:i<k+1):f i=bif Nat.ble k i then f k else f i:=by
 cases hb:Nat.ble k i with
 | false=>rfl
 | true=>rw[show i=k by have:=Nat.le_of_ble_eq_true hb;omega];rfl
set_option maxHeartbeats 2000000 in
set_option maxRecDepth 8000 in
theorem Copied_walk:∀a,aK ((fun a=>[∀i,i<a.l.n→(a.l.e i).l.n≤1000,a.l.n≤1000]) a)→aX (C:=cx) [conClone] [] 0 ⟨[],[],[3],1⟩ Tryz.f112 ((bM cP).enc a) fun v H _=>resOutX ((fun a=>a.sv) a) 42 H v:=by
 intro w ⟨hm,hn⟩
 replace hm:∀i,i<w.l.n→(w.l.e i).l.n≤1000:=hm
 replace hn:w.l.n≤1000:=hn
 refine Exists.intro (copyC w) ?_
 refine Ai ?_ ?_
 ·refine⟨(0:Nat),[],[.cell2 2 1 2 42],trivial,Nat.zero_le _,?_⟩
  repeat' (first|(refine Ai ?_ ?_)|(intro _)|exact rfl)
  all_goals exact absurd ‹_<0› (Nat.not_lt_zero _)
 refine fun(k:Nat) (hk:k≤w.l.n)=>?_
 refine Ai (fun hb=>?_) (fun hb=>?_)
 ·have hb:(k:Int)<w.l.n:=Od hb
  refine Ai ⟨by omega,by omega⟩ ?_
  refine Ai ⟨fun _ _=>trivial,hm k (by omega)⟩ ?_
  have hfit:iz (k+1) 32:=⟨Nat.le_trans (by omega:k+1≤1001) (by decide),by omega⟩
  refine Ai ⟨hfit,?_⟩ ?_
  ·repeat' (first|(refine Ai ?_ ?_)|(intro _)|exact rfl)
   all_goals exact trivial
  refine Ai (by unfold I64;omega:I64 ((k:Int)+1)) ?_
  refine⟨k+1,[(4,7)],[],(by show w.l.n-(k+1)<w.l.n-k;omega),(by omega:k+1≤w.l.n),?_⟩
  repeat' (first|(refine Ai ?_ ?_)|(intro _)|exact rfl)
  ·rename_i i hi;exact mw (fun i=>(w.l.e i).iD) hi
  ·rename_i i hi;exact mw (fun i=>(w.l.e i).l.n) hi
  ·rename_i i hi j hj;exact mw (fun i=>((w.l.e i).l.c j).kind) hi
  ·rename_i i hi j hj;exact mw (fun i=>((w.l.e i).l.c j).v0) hi
  ·rename_i i hi j hj;exact mw (fun i=>((w.l.e i).l.c j).v1) hi
  ·rename_i i hi j hj;exact mw (fun i=>((w.l.e i).l.c j).v2) hi
  ·rename_i i hi j hj;exact mw (fun i=>((w.l.e i).l.c j).v3) hi
 ·have hb:¬(k:Int)<w.l.n:=of_decide_eq_false hb
  obtain rfl:k=w.l.n:=by omega
  repeat' (first|(refine Ai ?_ ?_)|(intro _)|exact rfl)
  ·exact(congrArg (fun q=>(w.l.e q).iD) (Nat.zero_add _)).symm
  ·exact(congrArg (fun q=>(w.l.e q).l.n) (Nat.zero_add _)).symm
  ·rename_i i hi j hj;exact(congrArg (fun q=>((w.l.e q).l.c j).kind) (Nat.zero_add _)).symm
  ·rename_i i hi j hj;exact(congrArg (fun q=>((w.l.e q).l.c j).v0) (Nat.zero_add _)).symm
  ·rename_i i hi j hj;exact(congrArg (fun q=>((w.l.e q).l.c j).v1) (Nat.zero_add _)).symm
  ·rename_i i hi j hj;exact(congrArg (fun q=>((w.l.e q).l.c j).v2) (Nat.zero_add _)).symm
  ·rename_i i hi j hj;exact(congrArg (fun q=>((w.l.e q).l.c j).v3) (Nat.zero_add _)).symm
noncomputable def conCopied:Con cx:=walkConX 112 Tryz.call112 (bM cP) (fun a=>[∀i,i<a.l.n→(a.l.e i).l.n≤1000,a.l.n≤1000]) (fun a=>a.sv) 42 (fun _=>⟨[],[],[3],1⟩) [] (fun _=>rfl) follows Tryz.func112 (by kernel_rfl) Copied_walk
end Go.Proofs.YtgigkennhdolpaaGreatDoor
namespace Go.Proofs.YtgigkennhdolpaaGreatDoor
open Go.RowKit
def nilsL(n:Nat):SV:=.rs 1 n fun _=>[nilS]
def ccC1(n:Nat):Cut:=⟨Nat,fun k=>k≤n,fun k=>⟨[sl 0 (nilsL n),sl 3 (.il .i64 0),sl 9 (nilsL n),sl 10 (i64 n),sl 11 (i64 k)],[],0,0,[],[]⟩,fun k=>n-k⟩
def fI:SV:=.rs 3 0 fun _=>[]
def ccC2(n:Nat):Cut:=⟨Nat,fun k=>k≤n,fun k=>⟨[sl 6 (.g 0 1 3 0 0),sl 25 (nilsL n),sl 26 (i64 n),sl 27 (i64 k)],[(0,.lst 1 3 0 (fun _=>[]) 121)],2,0,[],[]⟩,fun k=>n-k⟩
open Go.Conc in
theorem s_sub{P:Program}{co:Bool}{E:Goroutine→World→Prop}{b:Frame}{a:Act}{k:List Item}{cs:List Frame}{W:World}{n:Nat}{l:List (Nat×Value)}{ops:Array Oper}{i d:Nat}{rest:List Nat}(hE:Closed P co E)(hk:b.kind≠.early){t yt:TypeId}{x y:Operand}{p q:Int}(hO:opk ops i=some (some d,.binOp .sub t x y yt,none))(hS:Sls n a l)(hd:d<n)(hx:a.eval x=.int .i64 p)(hy:a.eval y=.int .i64 q)(h:Nxt E b k cs ops rest n d a l (.int .i64 (IntKind.i64.wrap (p-q))) W):E (G (b.at a (.inRegion ops (i::rest)::k)) cs) W:=
 gD hE hk hO hS hd _ (fun _ _ _=>j8 hx hy fun w=>rfl) h
theorem runs_cap{P:Program}{a:Act}{W:World}{dst:Option Tmp}{ty:TypeId}{pos:String}{after:Array Edge}{guard:Option (Nat×Bool)}{x:Operand}{t:TypeId}{p:Option Addr}{len cap:Nat}(hx:a.eval x=.slice p len cap)(hd:∃e,P.underlying t=some (.slice e)):lz P a ⟨dst,.call ⟨.builtin .cap,#[x],#[t]⟩,ty,pos,after,guard⟩ W (goInt cap):=by
 obtain⟨e,hd⟩:=hd
 refine⟨?_,fun W1 _=>?_⟩
 ·simp only[execOp,resolve]
  exact ab (m:=Builtin.cap_ _ _ _) (ns_cap _ _ _) fun _=>trivial
 ·have hl:(Builtin.cap_ #[t] ty #[.slice p len cap]).run P W1=.ok (goInt cap) W1:=by
   simp[Builtin.cap_,run_underlying hd]
  simp only[execOp,resolve,invoke,builtin,Sem.run_bind,Sem.run_pure,Result.andThen_ok,List.map_toArray,List.map_cons,List.map_nil,hx,hl]
noncomputable def gB:Code:=fN Tryz.f177
theorem gB_is:gB=.seq (.region 0 (rgo (sq1 gB)) false) (.seq (.seq (.region 1 (rgo (sq1 (sq1 (sq2 gB)))) false) (.cond (.tmp 6) (cn1 (sq2 (sq1 (sq2 gB)))) .skip)) (.seq (.seq (.region 3 (rgo (sq1 (sq1 (sq2 (sq2 gB))))) false) (.seq (.region 4 (rgo (sq1 (sq2 (sq1 (sq2 (sq2 gB)))))) false) (.cond (.tmp 16) (cn1 (sq2 (sq2 (sq1 (sq2 (sq2 gB)))))) .skip))) (.seq (.region 6 (rgo (sq1 (sq2 (sq2 (sq2 gB))))) false) .ret))):=by kernel_rfl
theorem und_fs:∃e,Tryz.prog.underlying 47=some (.slice e):=⟨_,Tryz.underlying47⟩
open Go.Conc in
set_option maxRecDepth 100000 in
set_option maxHeartbeats 1000000 in
theorem grow0_calls{co:Bool}(W:World):bP Tryz.prog co 177 #[.slice none 0 0,.int .i64 0] W fun e W'=>e=.returned (.slice none 0 0)∧Rv W W':=by
 intro E hE cs hc
 have hS0:Sls 27 {tmps:=#[.slice none 0 0,.int .i64 0]++Array.replicate 25 undef,defers:=[]} [(0,.slice none 0 0),(1,.int .i64 0)]:=⟨by simp,fun t v e=>by
  simp only[av] at e
  split at e
  ·rename_i x;subst x;obtain rfl:=Oi e;kernel_rfl
  ·split at e
   ·rename_i x;subst x;obtain rfl:=Oi e;kernel_rfl
   ·cases e⟩
 have he:Frame.enter Tryz.prog 177 #[.slice none 0 0,.int .i64 0] .normal=(base 177).at {tmps:=#[.slice none 0 0,.int .i64 0]++Array.replicate 25 undef,defers:=[]} [.code gB]:=by kernel_rfl
 rw[he]
 have hd0:({tmps:=#[.slice none 0 0,.int .i64 0]++Array.replicate 25 undef,defers:=[]} : Act).defers=[]:=rfl
 generalize ({tmps:=#[.slice none 0 0,.int .i64 0]++Array.replicate 25 undef,defers:=[]} : Act)=a0 at hS0 hd0 ⊢
 have hb:(base 177).kind≠.early:=by decide
 refine bU hE _ _ gB_is ?_
 refine aO hE _ _ 1 rfl (by kernel_rfl) ?_
 refine eO (d:=4) (x:=.const (.slice none 0 0)) hE hb (by kernel_rfl) hS0 (by decide) (.slice none 0 0) rfl fun a1 hS1 d1=>?_
 refine ao hE ?_
 refine bU hE _ _ rfl ?_
 refine bU hE _ _ rfl ?_
 refine aO hE _ _ 2 rfl (by kernel_rfl) ?_
 refine db (d:=5) (x:=.tmp 1) hE hb (by kernel_rfl) hS1 (by decide) (.int .i64 0) (hS1.ev rfl) fun a2 hS2 d2=>?_
 refine s_lss (d:=6) (t:=3) (yt:=3) (x:=.tmp 5) (y:=.const (.int .i64 0)) hE hb (by kernel_rfl) hS2 (by decide) (hS2.ev rfl) rfl fun a3 hS3 d3=>?_
 refine ao hE ?_
 refine fW hE 6 _ _ rfl hS3 false rfl ?_
 refine ju hE rfl ?_
 refine bU hE _ _ rfl ?_
 refine bU hE _ _ rfl ?_
 refine aO hE _ _ 8 rfl (by kernel_rfl) ?_
 refine db (d:=8) (x:=.tmp 1) hE hb (by kernel_rfl) hS3 (by decide) (.int .i64 0) (hS3.ev rfl) fun a4 hS4 d4=>?_
 refine db (d:=9) (x:=.tmp 0) hE hb (by kernel_rfl) hS4 (by decide) (.slice none 0 0) (hS4.ev rfl) fun a5 hS5 d5=>?_
 refine gD (d:=10) (op:=.call ⟨.builtin .cap,#[.tmp 9],#[47]⟩) hE hb (by kernel_rfl) hS5 (by decide) (.int .i64 0) (fun _ _ _=>runs_cap (hS5.ev rfl) und_fs) fun a6 hS6 d6=>?_
 refine db (d:=11) (x:=.tmp 0) hE hb (by kernel_rfl) hS6 (by decide) (.slice none 0 0) (hS6.ev rfl) fun a7 hS7 d7=>?_
 refine s_len (d:=12) (t:=47) (x:=.tmp 11) hE hb (by kernel_rfl) hS7 (by decide) (hS7.ev rfl) und_fs fun a8 hS8 d8=>?_
 refine s_sub (d:=13) (t:=3) (yt:=3) (x:=.tmp 10) (y:=.tmp 12) hE hb (by kernel_rfl) hS8 (by decide) (hS8.ev rfl) (hS8.ev rfl) fun a9 hS9 d9=>?_
 refine s_sub (d:=14) (t:=3) (yt:=3) (x:=.tmp 8) (y:=.tmp 13) hE hb (by kernel_rfl) hS9 (by decide) (hS9.ev rfl) (hS9.ev rfl) fun a10 hS10 d10=>?_
 refine eO (d:=1) (x:=.tmp 14) hE hb (by kernel_rfl) hS10 (by decide) (.int .i64 0) (hS10.ev (by rfl)) fun a11 hS11 d11=>?_
 refine ao hE ?_
 refine bU hE _ _ rfl ?_
 refine aO hE _ _ 2 rfl (by kernel_rfl) ?_
 refine db (d:=15) (x:=.tmp 1) hE hb (by kernel_rfl) hS11 (by decide) (.int .i64 0) (hS11.ev rfl) fun a12 hS12 d12=>?_
 refine s_gtr (d:=16) (t:=3) (yt:=3) (x:=.tmp 15) (y:=.const (.int .i64 0)) hE hb (by kernel_rfl) hS12 (by decide) (hS12.ev rfl) rfl fun a13 hS13 d13=>?_
 refine ao hE ?_
 refine fW hE 16 _ _ rfl hS13 false rfl ?_
 refine ju hE rfl ?_
 refine bU hE _ _ rfl ?_
 refine aO hE _ _ 2 rfl (by kernel_rfl) ?_
 refine db (d:=26) (x:=.tmp 0) hE hb (by kernel_rfl) hS13 (by decide) (.slice none 0 0) (hS13.ev rfl) fun a14 hS14 d14=>?_
 refine eO (d:=4) (x:=.tmp 26) hE hb (by kernel_rfl) hS14 (by decide) (.slice none 0 0) (hS14.ev rfl) fun a15 hS15 d15=>?_
 refine ao hE ?_
 refine e_ret hE rfl ?_
 have hr:Tryz.f177.results=#[.tmp 4]:=by kernel_rfl
 refine hc (.returned (.slice none 0 0)) W _ ⟨rfl,Rv.refl W⟩ rfl ⟨rfl,?_,rfl,_,Tryz.func177,?_⟩
 ·exact d15.trans (d14.trans (d13.trans (d12.trans (d11.trans (d10.trans (d9.trans (d8.trans (d7.trans (d6.trans (d5.trans (d4.trans (d3.trans (d2.trans (d1.trans hd0))))))))))))))
 ·rw[results_tmp hr]
  have:=hS15.ev (t:=4) rfl
  exact congrArg (fun v=>Result.ok v W) this
set_option maxRecDepth 100000 in
noncomputable def conGrow0:Con cx:=mkCon 177 Tryz.call177 (dG (fl:=[]) (fn:=Tryz.f177) Tryz.func177 (by kernel_rfl)) (aV rdX (rdI .i64)) (fun x=>[x.1=nilS,x.2=0]) (fun _=>nilS) fun x ze W vs hp hG hz hd=>by
 obtain⟨x,n⟩:=x
 obtain⟨rfl,rfl⟩:x=nilS∧n=0:=hp
 obtain⟨u,w,rfl,rfl,u2,w2,rfl,rfl,rfl⟩:=hd
 exact(grow0_calls W).mono fun e W' ⟨h1,h2⟩=>⟨_,fun _ _ _=>False,h1,dQ h2,fun _ _ _ h=>h.elim,rfl⟩
set_option maxRecDepth 100000 in
set_option maxHeartbeats 2000000 in
theorem Concat_walk:∀x:SV,aK ((fun x=>[∃n:Nat,x=nilsL n∧n≤1000]) x)→aX (C:=cx) [conGrow0] [] 0 ⟨[],[],[3,11],0⟩ Tryz.f118 ((bM rdX).enc x) fun v H _=>fE ((fun _=>fI) x) H v:=by
 intro x hx
 obtain⟨n,rfl,hn⟩:=hx
 refine Exists.intro (ccC1 n) ?_
 refine Ai ?_ ?_
 ·refine⟨(0:Nat),[],[],trivial,Nat.zero_le _,?_⟩
  repeat' (first|(refine Ai ?_ ?_)|(intro _)|exact rfl)
 refine fun(k:Nat) (hk:k≤n)=>?_
 refine Ai (fun hb=>?_) (fun hb=>?_)
 ·have hb:(k:Int)<n:=Od hb
  refine Ai ⟨by omega,by omega⟩ ?_
  refine Ai (by unfold I64;omega:I64 ((k:Int)+1)) ?_
  refine⟨k+1,[],[],(by show n-(k+1)<n-k;omega),(by omega:k+1≤n),?_⟩
  repeat' (first|(refine Ai ?_ ?_)|(intro _)|exact rfl)
 ·refine Ai ⟨rfl,rfl⟩ ?_
  refine Exists.intro (ccC2 n) ?_
  refine Ai ?_ ?_
  ·refine⟨(0:Nat),[],[.slot2 6 3 121],trivial,Nat.zero_le _,?_⟩
   repeat' (first|(refine Ai ?_ ?_)|(intro _)|exact rfl)
   all_goals exact absurd ‹_<0› (Nat.not_lt_zero _)
  refine fun(k:Nat) (hk:k≤n)=>?_
  refine Ai (fun hb=>?_) (fun hb=>?_)
  ·have hb:(k:Int)<n:=Od hb
   refine Ai ⟨by omega,by omega⟩ ?_
   refine Ai (Ai (⟨Nat.zero_le _,by decide⟩:iz (0+0) 24) (fun j h=>absurd h (Nat.not_lt_zero _))) ?_
   refine Ai (by unfold I64;omega:I64 ((k:Int)+1)) ?_
   refine⟨k+1,[(1,2)],[],(by show n-(k+1)<n-k;omega),(by omega:k+1≤n),?_⟩
   repeat' (first|(refine Ai ?_ ?_)|(intro _)|exact rfl)
   all_goals exact absurd ‹_<0› (Nat.not_lt_zero _)
  ·repeat' (first|(refine Ai ?_ ?_)|(intro _)|exact rfl)
   all_goals exact absurd ‹_<0› (Nat.not_lt_zero _)
noncomputable def conConcat0:Con cx:=jZ 118 Tryz.call118 (bM rdX) _ _ (fun _=>⟨[],[],[3,11],0⟩) [] (fun _=>rfl) follows Tryz.func118 (by kernel_rfl) Concat_walk
end Go.Proofs.YtgigkennhdolpaaGreatDoor
namespace Go.Proofs.YtgigkennhdolpaaGreatDoor
open Go.RowKit Go.Conc
noncomputable def lB:Code:=fN Tryz.f226
theorem lB_is:lB=.seq (.region 0 (rgo (sq1 lB)) false) (.seq (.seq (.region 1 (rgo (sq1 (sq1 (sq2 lB)))) false) (.cond (.tmp 4) (cn1 (sq2 (sq1 (sq2 lB)))) .skip)) (.seq (.seq (.region 4 (rgo (sq1 (sq1 (sq2 (sq2 lB))))) false) (.cond (.tmp 8) (cn1 (sq2 (sq1 (sq2 (sq2 lB))))) .skip)) (.seq (.seq (.region 7 (rgo (sq1 (sq1 (sq2 (sq2 (sq2 lB)))))) false) (.cond (.tmp 14) (cn1 (sq2 (sq1 (sq2 (sq2 (sq2 lB)))))) .skip)) (.seq (.region 10 (rgo (sq1 (sq2 (sq2 (sq2 (sq2 lB)))))) false) .ret)))):=by kernel_rfl
noncomputable def tabS:Value:=match opk (rgo (sq1 (sq2 (sq2 (sq2 (sq2 lB)))))) 3 with|some (_,.index _ (.const v) _,_)=>v|_=>undef
theorem runs_conv{P:Program}{a:Act}{W:World}{dst:Option Tmp}{ty:TypeId}{pos:String}{after:Array Edge}{guard:Option (Nat×Bool)}{x:Operand}{s t:TypeId}{k k':IntKind}(hx:a.eval x=.int k 0)(hs:P.underlying s=some (.int k))(ht:P.underlying t=some (.int k')):lz P a ⟨dst,.convert s t x,ty,pos,after,guard⟩ W (.int k' 0):=by
 refine⟨ab (by rw[hx];exact ns_convInt ht) fun _=>trivial,fun W1 _=>?_⟩
 have:(convert s t (.int k 0)).run P W1=.ok (.int k' 0) W1:=by
  have hw:k'.wrap 0=0:=by cases k'<;>rfl
  simp[convert,run_underlying hs,run_underlying ht,Conv.intToInt,hw]
 simp only[execOp,hx,Sem.run_bind,this,Result.andThen_ok,Sem.run_pure]
theorem runs_tab{a:Act}{W:World}{dst:Option Tmp}{ty:TypeId}{pos:String}{after:Array Edge}{guard:Option (Nat×Bool)}{x:Operand}(hx:a.eval x=.int .u8 0):lz Tryz.prog a ⟨dst,.index 9 (.const tabS) x,ty,pos,after,guard⟩ W (.int .u8 0):=by
 refine⟨ab (ns_index _ _ _) fun _=>trivial,fun W1 _=>?_⟩
 have:(Instr.index 9 tabS (.int .u8 0)).run Tryz.prog W1=.ok (.int .u8 0) W1:=by kernel_rfl
 have e:a.eval (.const tabS)=tabS:=rfl
 simp only[execOp,hx,e,Sem.run_bind,this,Result.andThen_ok,Sem.run_pure]
theorem s_geq{P:Program}{co:Bool}{E:Goroutine→World→Prop}{b:Frame}{a:Act}{k:List Item}{cs:List Frame}{W:World}{n:Nat}{l:List (Nat×Value)}{ops:Array Oper}{i d:Nat}{rest:List Nat}(hE:Closed P co E)(hk:b.kind≠.early){t yt:TypeId}{x y:Operand}{p q:Int}(hO:opk ops i=some (some d,.binOp .geq t x y yt,none))(hS:Sls n a l)(hd:d<n)(hx:a.eval x=.int .u64 p)(hy:a.eval y=.int .u64 q)(h:Nxt E b k cs ops rest n d a l (.bool (decide (p≥q))) W):E (G (b.at a (.inRegion ops (i::rest)::k)) cs) W:=
 gD hE hk hO hS hd _ (fun _ _ _=>j8 hx hy fun w=>rfl) h
set_option maxRecDepth 100000 in
set_option maxHeartbeats 1000000 in
theorem len64_calls{co:Bool}(W:World):bP Tryz.prog co 226 #[.int .u64 0] W fun e W'=>e=.returned (.int .i64 0)∧Rv W W':=by
 intro E hE cs hc
 have hS0:Sls 25 {tmps:=#[.int .u64 0]++Array.replicate 24 undef,defers:=[]} [(0,.int .u64 0)]:=⟨by simp,fun t v e=>by
  simp only[av] at e
  split at e
  ·rename_i x;subst x;obtain rfl:=Oi e;kernel_rfl
  ·cases e⟩
 have he:Frame.enter Tryz.prog 226 #[.int .u64 0] .normal=(base 226).at {tmps:=#[.int .u64 0]++Array.replicate 24 undef,defers:=[]} [.code lB]:=by kernel_rfl
 rw[he]
 have hd0:({tmps:=#[.int .u64 0]++Array.replicate 24 undef,defers:=[]} : Act).defers=[]:=rfl
 generalize ({tmps:=#[.int .u64 0]++Array.replicate 24 undef,defers:=[]} : Act)=a0 at hS0 hd0 ⊢
 have hb:(base 226).kind≠.early:=by decide
 refine bU hE _ _ lB_is ?_
 refine aO hE _ _ 1 rfl (by kernel_rfl) ?_
 refine eO (d:=2) (x:=.const (.int .i64 0)) hE hb (by kernel_rfl) hS0 (by decide) (.int .i64 0) rfl fun a1 hS1 d1=>?_
 refine ao hE ?_
 refine bU hE _ _ rfl ?_
 refine bU hE _ _ rfl ?_
 refine aO hE _ _ 2 rfl (by kernel_rfl) ?_
 refine db (d:=3) (x:=.tmp 0) hE hb (by kernel_rfl) hS1 (by decide) (.int .u64 0) (hS1.ev rfl) fun a2 hS2 d2=>?_
 refine s_geq (d:=4) (t:=31) (yt:=31) (x:=.tmp 3) (y:=.const (.int .u64 4294967296)) hE hb (by kernel_rfl) hS2 (by decide) (hS2.ev rfl) rfl fun a3 hS3 d3=>?_
 refine ao hE ?_
 refine fW hE 4 _ _ rfl hS3 false rfl ?_
 refine ju hE rfl ?_
 refine bU hE _ _ rfl ?_
 refine bU hE _ _ rfl ?_
 refine aO hE _ _ 2 rfl (by kernel_rfl) ?_
 refine db (d:=7) (x:=.tmp 0) hE hb (by kernel_rfl) hS3 (by decide) (.int .u64 0) (hS3.ev rfl) fun a4 hS4 d4=>?_
 refine s_geq (d:=8) (t:=31) (yt:=31) (x:=.tmp 7) (y:=.const (.int .u64 65536)) hE hb (by kernel_rfl) hS4 (by decide) (hS4.ev rfl) rfl fun a5 hS5 d5=>?_
 refine ao hE ?_
 refine fW hE 8 _ _ rfl hS5 false rfl ?_
 refine ju hE rfl ?_
 refine bU hE _ _ rfl ?_
 refine bU hE _ _ rfl ?_
 refine aO hE _ _ 2 rfl (by kernel_rfl) ?_
 refine db (d:=13) (x:=.tmp 0) hE hb (by kernel_rfl) hS5 (by decide) (.int .u64 0) (hS5.ev rfl) fun a6 hS6 d6=>?_
 refine s_geq (d:=14) (t:=31) (yt:=31) (x:=.tmp 13) (y:=.const (.int .u64 256)) hE hb (by kernel_rfl) hS6 (by decide) (hS6.ev rfl) rfl fun a7 hS7 d7=>?_
 refine ao hE ?_
 refine fW hE 14 _ _ rfl hS7 false rfl ?_
 refine ju hE rfl ?_
 refine bU hE _ _ rfl ?_
 refine aO hE _ _ 7 rfl (by kernel_rfl) ?_
 refine db (d:=19) (x:=.tmp 2) hE hb (by kernel_rfl) hS7 (by decide) (.int .i64 0) (hS7.ev rfl) fun a8 hS8 d8=>?_
 refine db (d:=20) (x:=.tmp 0) hE hb (by kernel_rfl) hS8 (by decide) (.int .u64 0) (hS8.ev rfl) fun a9 hS9 d9=>?_
 refine gD (d:=21) (op:=.convert 31 5 (.tmp 20)) hE hb (by kernel_rfl) hS9 (by decide) (.int .u8 0) (fun _ _ _=>runs_conv (hS9.ev rfl) Tryz.underlying31 Tryz.underlying5) fun a10 hS10 d10=>?_
 refine gD (d:=22) (op:=.index 9 (.const tabS) (.tmp 21)) hE hb (by kernel_rfl) hS10 (by decide) (.int .u8 0) (fun _ _ _=>runs_tab (hS10.ev rfl)) fun a11 hS11 d11=>?_
 refine gD (d:=23) (op:=.convert 5 3 (.tmp 22)) hE hb (by kernel_rfl) hS11 (by decide) (.int .i64 0) (fun _ _ _=>runs_conv (hS11.ev rfl) Tryz.underlying5 Tryz.underlying3) fun a12 hS12 d12=>?_
 refine s_add (d:=24) (t:=3) (yt:=3) (x:=.tmp 19) (y:=.tmp 23) hE hb (by kernel_rfl) hS12 (by decide) (hS12.ev rfl) (hS12.ev rfl) fun a13 hS13 d13=>?_
 refine eO (d:=2) (x:=.tmp 24) hE hb (by kernel_rfl) hS13 (by decide) (.int .i64 0) (hS13.ev (by rfl)) fun a14 hS14 d14=>?_
 refine ao hE ?_
 refine e_ret hE rfl ?_
 have hr:Tryz.f226.results=#[.tmp 2]:=by kernel_rfl
 refine hc (.returned (.int .i64 0)) W _ ⟨rfl,Rv.refl W⟩ rfl ⟨rfl,?_,rfl,_,Tryz.func226,?_⟩
 ·exact d14.trans (d13.trans (d12.trans (d11.trans (d10.trans (d9.trans (d8.trans (d7.trans (d6.trans (d5.trans (d4.trans (d3.trans (d2.trans (d1.trans hd0)))))))))))))
 ·rw[results_tmp hr]
  have:=hS14.ev (t:=2) rfl
  exact congrArg (fun v=>Result.ok v W) this
set_option maxRecDepth 100000 in
noncomputable def conLen0:Con cx:=mkCon 226 Tryz.call226 (dG (fl:=[]) (fn:=Tryz.f226) Tryz.func226 (by kernel_rfl)) (bM (rdI .u64)) (fun x=>[x=0]) (fun _=>.v (.int .i64 0)) fun x ze W vs hp hG hz hd=>by
 obtain rfl:x=0:=hp
 obtain⟨u,w,rfl,rfl,rfl⟩:=hd
 exact(len64_calls W).mono fun e W' ⟨h1,h2⟩=>⟨_,fun _ _ _=>False,h1,dQ h2,fun _ _ _ h=>h.elim,rfl⟩
end Go.Proofs.YtgigkennhdolpaaGreatDoor
namespace Go.Proofs.YtgigkennhdolpaaGreatDoor
open Go.RowKit
noncomputable def inLen:FnI cx:=⟨179,Tryz.call179,Tryz.f179,Tryz.func179,[],[],[],0,by kernel_rfl⟩
noncomputable def inIns0:FnI cx:=⟨217,Tryz.call217,Tryz.f217,Tryz.func217,[6],[],[],1,by kernel_rfl⟩
noncomputable def inPdq:FnI cx:=⟨178,Tryz.call178,Tryz.f178,Tryz.func178,[],[],[],1,by kernel_rfl⟩
def cmpSV:SV:=.v (.func (.func 120) #[] #[])
set_option maxRecDepth 100000 in
set_option maxHeartbeats 2000000 in
theorem Sort0_walk:∀x:SV×SV,aK ((fun x=>[x.1=fI,x.2=cmpSV]) x)→aX (C:=cx) [conLen0] [inLen,inPdq,inIns0] 3 ⟨[],[],[],1⟩ Tryz.f119 ((aV rdX rdX).enc x) fun v H _=>ai ((fun _=>.tup []) x) H v:=by
 intro⟨x,f⟩ ⟨hx,hf⟩
 replace hx:x=fI:=hx
 replace hf:f=cmpSV:=hf
 subst hx hf
 refine Ai rfl ?_
 refine Ai ⟨by decide,by decide⟩ ?_
 refine Ai (fun hb=>?_) (fun hb=>absurd hb (by decide))
 refine Ai (fun hb=>absurd hb (by decide)) (fun hb=>?_)
 repeat' (first|(refine Ai ?_ ?_)|(intro _)|exact rfl)
 all_goals first|exact trivial|(conv=>whnf)
noncomputable def conSort0:Con cx:=ah 119 Tryz.call119 (aV rdX rdX) _ _ (fun _=>⟨[],[],[],1⟩) [] (fun _=>rfl) follows Tryz.func119 (by kernel_rfl) Sort0_walk
end Go.Proofs.YtgigkennhdolpaaGreatDoor
namespace Go.Proofs.YtgigkennhdolpaaGreatDoor
section
variable {PP:Program}
def Cx.par(C:Cx PP):Cx PP:={C with co:=true}
def Con.lift{C:Cx PP}(hc:C.co=false)(c:Con C):Con C.par where
 f:=c.f
 en:=c.en
 ns:=c.ns
 run:=c.run
 fresh:=c.fresh
 own:=c.own
 wr:=c.wr
 frz:=c.frz
 ok:=fun ze W args vs ob out hg hz hd hr ho=>by
  have h:=c.ok ze W args vs ob out hg hz hd hr ho
  rw[hc] at h
  exact bP.lift (co:=true) h
end
abbrev cxP:Cx Tryz.prog:=cx.par
noncomputable def gamP:List (Con cxP):=[je.lift rfl,conWValid0.lift rfl,conCopied.lift rfl]
noncomputable def preB:Code:=.seq (sq1 pB) (.seq (sq1 p1) (.seq (sq1 p3) (sq1 p4)))
theorem pB_is:pB=.seq (sq1 pB) p1:=by kernel_rfl
theorem p1_is:p1=.seq (sq1 p1) p3:=by kernel_rfl
theorem p3_is:p3=.seq (sq1 p3) p4:=by kernel_rfl
theorem p4_is:p4=.seq (sq1 p4) p5:=by kernel_rfl
def Has(st:St)(t:Nat)(v:SV):Prop:=∃q,look st.sl t=some q∧q.v=v∧q.g=[]
structure PreOk (w:Wor) (x:Stp) (st:St):Prop where
 s2:Has st 2 (.v (.int .i64 1))
 s3:Has st 3 (.p 0 0)
 s4:Has st 4 (.p 1 0)
 s6:Has st 6 (.p 2 0)
 s9:Has st 9 (.p 4 0)
 s10:Has st 10 (.p 6 0)
 h0:look st.H 0=some (.lay [.v (.int .i64 w.tick),w.l.sv] 28)
 h1:look st.H 1=some (.lay x.cells 33)
 h2:look st.H 2=some (.lay [.il .i64 0,nilS] 28)
 h3:look st.H 3=some (.lst 3 2 w.l.n (fun i=>(w.l.e i).cells) 42)
 h4:look st.H 4=some (.lay [.v (.int .i64 w.tick),.g 3 3 2 0 w.l.n] 28)
 h5:look st.H 5=some (.lst 5 1 w.l.n (fun _=>[nilS]) 47)
 h6:look st.H 6=some (.lay [.g 5 5 1 0 w.l.n] 189)
 nm:st.nm=7
set_option maxRecDepth 100000 in
set_option maxHeartbeats 2000000 in
theorem pre_ev(w:Wor)(x:Stp)(hv:w.valid=true)(hs:w.l.Sm)(hn:w.l.n≤1000)(hc:∀i,i<w.l.n→(w.l.e i).l.n≤1000)(hx:x.None):ev (C:=cxP) gamP 62 0 (ku (C:=cxP) gamP [] 0) (gF (C:=cxP) []) ⟨[1001],[],[],1⟩ preB ⟨cu 0 [w.sv,x.sv,.v (.int .i64 1)],[],0,0,[],[]⟩ (fun ex st=>ex=.normal∧PreOk w x st):=by
 refine Ai ⟨fun _ _ _ _=>trivial,hs⟩ ?_
 refine Ai (fun hw=>?_) (fun hw=>by have hw:(!w.valid)=true:=hw;rw[hv] at hw;cases hw)
 refine Ai ⟨fun _ _=>trivial,fun i hi=>absurd (hx.p▸hi) (Nat.not_lt_zero _),hx⟩ ?_
 refine Ai (fun hb=>?_) (fun hb=>absurd hb (by decide))
 refine Ai (fun hb=>absurd hb (by decide)) (fun hb=>?_)
 refine Ai ⟨fun _ _ _ _=>trivial,hc,hn⟩ ?_
 refine Ai ⟨Int.natCast_nonneg _,Int.le_refl _,(Nat.le_trans (show w.l.n≤1000 from hn) (by decide)),(show w.l.n*24≤140737488355328 by omega)⟩ ?_
 refine Ai rfl ?_
 exact⟨⟨_,rfl,rfl,rfl⟩,⟨_,rfl,rfl,rfl⟩,⟨_,rfl,rfl,rfl⟩,⟨_,rfl,rfl,rfl⟩,⟨_,rfl,rfl,rfl⟩,⟨_,rfl,rfl,rfl⟩,rfl,rfl,rfl,rfl,rfl,rfl,rfl,rfl⟩
end Go.Proofs.YtgigkennhdolpaaGreatDoor
