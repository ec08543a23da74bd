/- Company, 48: the worker's work on entity i, without Systems. -/
import Derived.Test.YtgigkennhdolpaaGreatDoorM42
namespace Go.Proofs.YtgigkennhdolpaaGreatDoor
open Go.Conc Go.RowKit
def qy(b o:Nat):Value:=.pointer (some ⟨b,o,none⟩)
structure cG (W:World) (N UN b4 b3 b9 U5 c:Nat) where
 cs9:Array Value
 cs10:Array Value
 cs3:Array Value
 ce:Array Value
 cf:Array Value
 fz9:Nat×Nat
 fz10:Nat×Nat
 fz3:Nat×Nat
 fz4:Nat×Nat
 fz11:Nat×Nat
 be:Nat
 oe:Nat
 cap:Nat
 bf:Nat
 of_:Nat
 capf:Nat
 seen:Int
 p0:Option Addr
 k0:Nat
 p1:Option Addr
 n1:Nat
 k1:Nat
 x2:Int
 x3:Int
 h9:W.heap[b9]? = some (.cells cs9 28 fz9)
 sp:Option Addr
 sf:Option Addr
 h91:cs9[1]? = some (.slice sp N cap)
 hsp:0<N->sp=some ⟨be,oe,none⟩
 h10:W.heap[U5]? = some (.cells cs10 189 fz10)
 h100:cs10[0]? = some (.slice sf N capf)
 hsf:0<N->sf=some ⟨bf,of_,none⟩
 h3:W.heap[b3]? = some (.cells cs3 28 fz3)
 h30:cs3[0]? = some (.int .i64 seen)
 h4:W.heap[b4]? = some (.cells #[.slice p0 0 k0,.slice p1 n1 k1,.int .u64 x2,.int .i64 x3] 33 fz4)
 h11:W.heap[UN]? = some (.cells #[.chan (some c)] 190 fz11)
 hE:0<N->W.heap[be]? = some (.cells ce 42 (0,0))
 hEi:∀i,i<N->∃id p n k,ce[oe+i*2]? = some (.int .i64 id)∧ce[oe+i*2+1]? = some (.slice p n k)
 hF:0<N->W.heap[bf]? = some (.cells cf 47 (0,0))
 hFi:∀i,i<N->cf[of_+i]? = some (.slice none 0 0)
def dI{Wm:World}{N UN b4 b3 b9 U5 c:Nat}(X:cG Wm N UN b4 b3 b9 U5 c)(i:Nat)(id:Int)(p:Option Addr)(n k:Nat):List (Option (Nat×Value)):=[some (12,qy b9 1),some (13,(.slice (some ⟨X.be,X.oe,none⟩) N X.cap)),some (14,de i),some (15,(.slice (some ⟨X.bf,X.of_,none⟩) N X.capf)),some (16,de i),some (17,oM X.p0 X.k0 X.p1 X.n1 X.k1 X.x2 X.x3),some (18,qy b3 0),some (19,.int .i64 X.seen),some (20,qy b9 1),some (21,(.slice (some ⟨X.be,X.oe,none⟩) N X.cap)),some (22,de i),some (23,qy X.be (X.oe+i*2)),some (24,oN id p n k),some (25,.tuple #[oN id p n k,.slice none 0 0]),some (11,.tuple #[oN id p n k,.slice none 0 0]),some (26,oN id p n k),some (27,.slice none 0 0),some (28,qy X.be (X.oe+i*2)),none,some (29,qy X.bf (X.of_+i)),none]
abbrev l6 (Wg UN b4 b3 b9 U5 c i:Nat):List (Nat×Value):=(6,de i)::Bh Wg UN b4 b3 b9 U5 c
theorem cG.at9{Wm:World}{N UN b4 b3 b9 U5 c i:Nat}(X:cG Wm N UN b4 b3 b9 U5 c)(hi:i<N):X.cs9[1]? = some (.slice (some ⟨X.be,X.oe,none⟩) N X.cap):=by rw[<-X.hsp (by omega)];exact X.h91
theorem cG.T9{Wm:World}{N UN b4 b3 b9 U5 c i:Nat}(X:cG Wm N UN b4 b3 b9 U5 c)(hi:i<N):X.cs10[0]? = some (.slice (some ⟨X.bf,X.of_,none⟩) N X.capf):=by rw[<-X.hsf (by omega)];exact X.h100
theorem AB:∃fs f i,Tryz.prog.underlying 28=some (.struct fs)∧fs[0]? = some f∧Tryz.prog.info? f.type=some i∧i.size≠0∧f.offset=0:=by
 have h:lS cx 28 0=some (0,⟨1,8,.int .i64,[.il .i64 0],false⟩):=by rfl
 obtain⟨fs,f,i,d,e1,e2,e3,e4,e5,e6,e7⟩:=iC h;exact⟨fs,f,i,e1,e2,e4,by rw[e6];decide,e3⟩
theorem pk{t:Nat}{ti:TI}(h:look types t=some ti):∃i,Tryz.prog.info? t=some i∧i.size=ti.sz:=by obtain⟨i,d,z,h1,h2,h3,-⟩:=(cx.ty h).ex;exact⟨i,h1,h3⟩
theorem Cm:Tryz.prog.underlying 189=some (.slice 47):=by kernel_rfl
theorem Ep:∃fs,Tryz.prog.underlying 33=some (.struct fs):=⟨_,Tryz.underlying33⟩
theorem La:∃fs,Tryz.prog.underlying 42=some (.struct fs):=⟨_,Tryz.underlying42⟩
theorem rH{a:Act}{W:World}{K:Act->World->Prop}{t:Nat}{ti:TI}{x y:Operand}{ty:TypeId}{pos:String}{after:Array Edge}{b off:Nat}{cur:Array Value}{e:TypeId}{v:Value}(Vz:look types t=some ti)(hx:a.eval x=.pointer (some ⟨b,off,none⟩))(hy:a.eval y=v)(hb:W.heap[b]? = some (.cells cur e (0,0)))
  (hl:v.cells.toList.length=ti.sz) (h0:0<ti.sz) (hc:∀j u,v.cells.toList[j]? = some u->cur[off+j]? = some u∧u.oneCell'=true) (hK:K (a.put none undef) W):cR Tryz.prog false ⟨none,.store t x y,ty,pos,after,none⟩ a W K:=by
 have Vn:off+ti.sz<=cur.toList.length:=by have hj:v.cells.toList[ti.sz-1]? = some (v.cells.toList[ti.sz-1]'(by omega)):=UE _;have:=(E'.1 (hc _ _ hj).1).1;simp;omega
 have hs:(cur.toList.take off++v.cells.toList++cur.toList.drop (off+ti.sz)).toArray=cur:=by
  apply Array.ext';rw[List.toList_toArray];apply List.ext_getElem?;intro j;rw[List.append_assoc];by_cases h1:j<off;rw[M' (by rw[List.length_take];omega),Uy h1];rw[O' (by rw[List.length_take];omega),List.length_take,Nat.min_eq_left (by omega)];by_cases h2:j-off<ti.sz;rw[M' (by omega)];have hj:=UE (l:=v.cells.toList) (i:=j-off) (by omega);have h3:=(hc _ _ hj).1;rw[show off+(j-off)=j by omega] at h3;rw[hj,Array.getElem?_toList,h3];rw[O' (by omega),hl,List.getElem?_drop]
  congr 1
  omega
 have hr:=oy (C:=cx) (a:=a) (W:=W) (ty:=ty) (pos:=pos) (after:=after) (guard:=none) (u:=cur.toList) (bt:=e) Vz hx (by rw[Array.toArray_toList];exact hb) (by rw[hy];exact hl) Vn (by rw[hy];exact λu hu=>by obtain⟨j,hj⟩:=List.getElem?_of_mem hu;exact(hc j u hj).2);unfold cR;rw[hr,hy,hs,setRow_self W b cur e (0,0) hb];exact hK
section
theorem TA{Wm:World}{N Wg UN b4 b3 b9 U5 c i:Nat}(X:cG Wm N UN b4 b3 b9 U5 c)(hi:i<N){id:Int}{p:Option Addr}{n k:Nat}(e1:X.ce[X.oe+i*2]? = some (.int .i64 id))(e2:X.ce[X.oe+i*2+1]? = some (.slice p n k)):bF Tryz.prog false Xa (l6 Wg UN b4 b3 b9 U5 c i) 30 Wm (dI X i id p n k) 0 (some (12,qy b9 1)):=by refine bF.val (op:=.fieldAddr 28 (.tmp 4) 1) (ds:=[]) (by kernel_rfl) (by kernel_rfl) λty pos after a W hS r U0=>?_;obtain⟨fs,f,inf,u1,u2,u3,u4,u5⟩:=oO;have:=ku (P:=Tryz.prog) (a:=a) (x:=.tmp 4) (k:=1) (W:=W) (dst:=some 12) (ty:=ty) (pos:=pos) (after:=after) (guard:=none) (p:=⟨b9,0,none⟩) (hS.ev rfl) u1 u2 u3 u4;rw[bM,u5] at this;exact this
theorem Tz{Wm:World}{N Wg UN b4 b3 b9 U5 c i:Nat}(X:cG Wm N UN b4 b3 b9 U5 c)(hi:i<N){id:Int}{p:Option Addr}{n k:Nat}(e1:X.ce[X.oe+i*2]? = some (.int .i64 id))(e2:X.ce[X.oe+i*2+1]? = some (.slice p n k)):bF Tryz.prog false Xa (l6 Wg UN b4 b3 b9 U5 c i) 30 Wm (dI X i id p n k) 1 (some (13,(.slice (some ⟨X.be,X.oe,none⟩) N X.cap))):=by refine bF.val (op:=.load 26 (.tmp 12)) (ds:=[0]) (by kernel_rfl) (by kernel_rfl) λty pos after a W hS r U0=>?_;exact iO (d:=_) ((aU (U0 0 (by simp) 12 _ rfl))) jE (λ_ h=>by cases h) (λ_ _ h=>by cases h) (r.heap _ _ X.h9) (X.at9 hi)
theorem Ty{Wm:World}{N Wg UN b4 b3 b9 U5 c i:Nat}(X:cG Wm N UN b4 b3 b9 U5 c)(hi:i<N){id:Int}{p:Option Addr}{n k:Nat}(e1:X.ce[X.oe+i*2]? = some (.int .i64 id))(e2:X.ce[X.oe+i*2+1]? = some (.slice p n k)):bF Tryz.prog false Xa (l6 Wg UN b4 b3 b9 U5 c i) 30 Wm (dI X i id p n k) 2 (some (14,de i)):=by refine bF.val (op:=.move (.tmp 6)) (ds:=[]) (by kernel_rfl) (by kernel_rfl) λty pos after a W hS r U0=>?_;exact jG (hS.ev rfl)
theorem Tx{Wm:World}{N Wg UN b4 b3 b9 U5 c i:Nat}(X:cG Wm N UN b4 b3 b9 U5 c)(hi:i<N){id:Int}{p:Option Addr}{n k:Nat}(e1:X.ce[X.oe+i*2]? = some (.int .i64 id))(e2:X.ce[X.oe+i*2+1]? = some (.slice p n k)):bF Tryz.prog false Xa (l6 Wg UN b4 b3 b9 U5 c i) 30 Wm (dI X i id p n k) 3 (some (15,(.slice (some ⟨X.bf,X.of_,none⟩) N X.capf))):=by refine bF.val (op:=.load 189 (.tmp 5)) (ds:=[]) (by kernel_rfl) (by kernel_rfl) λty pos after a W hS r U0=>?_;exact iO (d:=_) (hS.ev rfl) Cm (λ_ h=>by cases h) (λ_ _ h=>by cases h) (r.heap _ _ X.h10) (X.T9 hi)
theorem Tw{Wm:World}{N Wg UN b4 b3 b9 U5 c i:Nat}(X:cG Wm N UN b4 b3 b9 U5 c)(hi:i<N){id:Int}{p:Option Addr}{n k:Nat}(e1:X.ce[X.oe+i*2]? = some (.int .i64 id))(e2:X.ce[X.oe+i*2+1]? = some (.slice p n k)):bF Tryz.prog false Xa (l6 Wg UN b4 b3 b9 U5 c i) 30 Wm (dI X i id p n k) 4 (some (16,de i)):=by refine bF.val (op:=.move (.tmp 6)) (ds:=[]) (by kernel_rfl) (by kernel_rfl) λty pos after a W hS r U0=>?_;exact jG (hS.ev rfl)
theorem Tv{Wm:World}{N Wg UN b4 b3 b9 U5 c i:Nat}(X:cG Wm N UN b4 b3 b9 U5 c)(hi:i<N){id:Int}{p:Option Addr}{n k:Nat}(e1:X.ce[X.oe+i*2]? = some (.int .i64 id))(e2:X.ce[X.oe+i*2+1]? = some (.slice p n k)):bF Tryz.prog false Xa (l6 Wg UN b4 b3 b9 U5 c i) 30 Wm (dI X i id p n k) 5 (some (17,oM X.p0 X.k0 X.p1 X.n1 X.k1 X.x2 X.x3)):=by refine bF.val (op:=.load 33 (.tmp 2)) (ds:=[]) (by kernel_rfl) (by kernel_rfl) λty pos after a W hS r U0=>?_;obtain⟨inf,f1,f2⟩:=pk (t:=33) rfl;obtain⟨fs,f3⟩:=Ep;exact rL (cs:=[.slice X.p0 0 X.k0,.slice X.p1 X.n1 X.k1,.int .u64 X.x2,.int .i64 X.x3]) (hS.ev rfl) f1 f3 (.inl ⟨_,rfl⟩) f2 (r.heap _ _ X.h4) (λj v hj=>by rw[B'];simpa using hj)
theorem Tu{Wm:World}{N Wg UN b4 b3 b9 U5 c i:Nat}(X:cG Wm N UN b4 b3 b9 U5 c)(hi:i<N){id:Int}{p:Option Addr}{n k:Nat}(e1:X.ce[X.oe+i*2]? = some (.int .i64 id))(e2:X.ce[X.oe+i*2+1]? = some (.slice p n k)):bF Tryz.prog false Xa (l6 Wg UN b4 b3 b9 U5 c i) 30 Wm (dI X i id p n k) 6 (some (18,qy b3 0)):=by refine bF.val (op:=.fieldAddr 28 (.tmp 3) 0) (ds:=[]) (by kernel_rfl) (by kernel_rfl) λty pos after a W hS r U0=>?_;obtain⟨fs,f,inf,u1,u2,u3,u4,u5⟩:=AB;have:=ku (P:=Tryz.prog) (a:=a) (x:=.tmp 3) (k:=0) (W:=W) (dst:=some 18) (ty:=ty) (pos:=pos) (after:=after) (guard:=none) (p:=⟨b3,0,none⟩) (hS.ev rfl) u1 u2 u3 u4;rw[bM,u5] at this;exact this
theorem Tt{Wm:World}{N Wg UN b4 b3 b9 U5 c i:Nat}(X:cG Wm N UN b4 b3 b9 U5 c)(hi:i<N){id:Int}{p:Option Addr}{n k:Nat}(e1:X.ce[X.oe+i*2]? = some (.int .i64 id))(e2:X.ce[X.oe+i*2+1]? = some (.slice p n k)):bF Tryz.prog false Xa (l6 Wg UN b4 b3 b9 U5 c i) 30 Wm (dI X i id p n k) 7 (some (19,.int .i64 X.seen)):=by refine bF.val (op:=.load 3 (.tmp 18)) (ds:=[6]) (by kernel_rfl) (by kernel_rfl) λty pos after a W hS r U0=>?_;exact iO (d:=_) ((aU (U0 6 (by simp) 18 _ rfl))) Tryz.underlying3 (λ_ h=>by cases h) (λ_ _ h=>by cases h) (r.heap _ _ X.h3) X.h30
theorem Ts{Wm:World}{N Wg UN b4 b3 b9 U5 c i:Nat}(X:cG Wm N UN b4 b3 b9 U5 c)(hi:i<N){id:Int}{p:Option Addr}{n k:Nat}(e1:X.ce[X.oe+i*2]? = some (.int .i64 id))(e2:X.ce[X.oe+i*2+1]? = some (.slice p n k)):bF Tryz.prog false Xa (l6 Wg UN b4 b3 b9 U5 c i) 30 Wm (dI X i id p n k) 8 (some (20,qy b9 1)):=by refine bF.val (op:=.fieldAddr 28 (.tmp 4) 1) (ds:=[]) (by kernel_rfl) (by kernel_rfl) λty pos after a W hS r U0=>?_;obtain⟨fs,f,inf,u1,u2,u3,u4,u5⟩:=oO;have:=ku (P:=Tryz.prog) (a:=a) (x:=.tmp 4) (k:=1) (W:=W) (dst:=some 20) (ty:=ty) (pos:=pos) (after:=after) (guard:=none) (p:=⟨b9,0,none⟩) (hS.ev rfl) u1 u2 u3 u4;rw[bM,u5] at this;exact this
theorem Tq{Wm:World}{N Wg UN b4 b3 b9 U5 c i:Nat}(X:cG Wm N UN b4 b3 b9 U5 c)(hi:i<N){id:Int}{p:Option Addr}{n k:Nat}(e1:X.ce[X.oe+i*2]? = some (.int .i64 id))(e2:X.ce[X.oe+i*2+1]? = some (.slice p n k)):bF Tryz.prog false Xa (l6 Wg UN b4 b3 b9 U5 c i) 30 Wm (dI X i id p n k) 9 (some (21,(.slice (some ⟨X.be,X.oe,none⟩) N X.cap))):=by refine bF.val (op:=.load 26 (.tmp 20)) (ds:=[8]) (by kernel_rfl) (by kernel_rfl) λty pos after a W hS r U0=>?_;exact iO (d:=_) ((aU (U0 8 (by simp) 20 _ rfl))) jE (λ_ h=>by cases h) (λ_ _ h=>by cases h) (r.heap _ _ X.h9) (X.at9 hi)
theorem Rr{Wm:World}{N Wg UN b4 b3 b9 U5 c i:Nat}(X:cG Wm N UN b4 b3 b9 U5 c)(hi:i<N){id:Int}{p:Option Addr}{n k:Nat}(e1:X.ce[X.oe+i*2]? = some (.int .i64 id))(e2:X.ce[X.oe+i*2+1]? = some (.slice p n k)):bF Tryz.prog false Xa (l6 Wg UN b4 b3 b9 U5 c i) 30 Wm (dI X i id p n k) 10 (some (22,de i)):=by refine bF.val (op:=.move (.tmp 6)) (ds:=[]) (by kernel_rfl) (by kernel_rfl) λty pos after a W hS r U0=>?_;exact jG (hS.ev rfl)
theorem Rq{Wm:World}{N Wg UN b4 b3 b9 U5 c i:Nat}(X:cG Wm N UN b4 b3 b9 U5 c)(hi:i<N){id:Int}{p:Option Addr}{n k:Nat}(e1:X.ce[X.oe+i*2]? = some (.int .i64 id))(e2:X.ce[X.oe+i*2+1]? = some (.slice p n k)):bF Tryz.prog false Xa (l6 Wg UN b4 b3 b9 U5 c i) 30 Wm (dI X i id p n k) 11 (some (23,qy X.be (X.oe+i*2))):=by refine bF.val (op:=.indexAddr 26 (.tmp 21) (.tmp 22)) (ds:=[9,10]) (by kernel_rfl) (by kernel_rfl) λty pos after a W hS r U0=>?_;obtain⟨inf,f1,f2⟩:=pk (t:=42) rfl;have:=kr (P:=Tryz.prog) (W:=W) (dst:=some 23) (ty:=ty) (pos:=pos) (after:=after) (guard:=none) (aU (U0 9 (by simp) 21 _ rfl)) (aU (U0 10 (by simp) 22 _ rfl)) (k:=(i:Int)) (by omega) jE f1;rw[bM,Int.toNat_natCast,f2] at this;exact this
theorem Ro{Wm:World}{N Wg UN b4 b3 b9 U5 c i:Nat}(X:cG Wm N UN b4 b3 b9 U5 c)(hi:i<N){id:Int}{p:Option Addr}{n k:Nat}(e1:X.ce[X.oe+i*2]? = some (.int .i64 id))(e2:X.ce[X.oe+i*2+1]? = some (.slice p n k)):bF Tryz.prog false Xa (l6 Wg UN b4 b3 b9 U5 c i) 30 Wm (dI X i id p n k) 12 (some (24,oN id p n k)):=by
 refine bF.val (op:=.load 42 (.tmp 23)) (ds:=[11]) (by kernel_rfl) (by kernel_rfl) λty pos after a W hS r U0=>?_;obtain⟨inf,f1,f2⟩:=pk (t:=42) rfl;obtain⟨fs,f3⟩:=La;exact rL (cs:=[.int .i64 id,.slice p n k]) (aU (U0 11 (by simp) 23 _ rfl)) f1 f3 (.inl ⟨_,rfl⟩) f2 (r.heap _ _ (X.hE (by omega))) (λj v hj=>by
  match j,hj with
  | 0,hj=>obtain rfl:=Oi hj;exact e1
  | 1,hj=>obtain rfl:=Oi hj;exact e2
  | _+2,hj=>cases hj)
set_option maxRecDepth 100000 in
theorem Rn{Wm:World}{N Wg UN b4 b3 b9 U5 c i:Nat}(X:cG Wm N UN b4 b3 b9 U5 c)(hi:i<N){id:Int}{p:Option Addr}{n k:Nat}(e1:X.ce[X.oe+i*2]? = some (.int .i64 id))(e2:X.ce[X.oe+i*2+1]? = some (.slice p n k)):bF Tryz.prog false Xa (l6 Wg UN b4 b3 b9 U5 c i) 30 Wm (dI X i id p n k) 13 (some (25,.tuple #[oN id p n k,.slice none 0 0])):=by
 have hO:WN Xa 13=some (some 25,.call ⟨.value (.func 116),#[.tmp 17,.tmp 19,.tmp 24],#[33,3,42]⟩,none):=by kernel_rfl
 have hd:mn Xa 13 [5,7,12]=true:=by kernel_rfl
 obtain⟨ty,pos,after,ho⟩:=eF hO;refine⟨_,ty,pos,after,ho,λa W hS r U0 K hK=>⟨oi (x:=.func 116) rfl rfl (λargs=>jd Tryz.func116 (by kernel_rfl) args),λW1 r1=>?_⟩⟩;have U0:∀j∈[5,7,12],∀d v,(dI X i id p n k)[j]? = some (some (d,v))->a.tmps[d]? = some v:=λj hj=>U0 j (jg ho hd hj);unfold cR;rw[oA (al:=#[oM X.p0 X.k0 X.p1 X.n1 X.k1 X.x2 X.x3,.int .i64 X.seen,oN id p n k]) (x:=.func 116) rfl rfl Tryz.call116 (by have h1:=aU (U0 5 (by simp) 17 _ rfl);have h2:=aU (U0 7 (by simp) 19 _ rfl);have h3:=aU (U0 12 (by simp) 24 _ rfl);simp[h1,h2,h3])];refine(wV X.p0 X.k0 X.p1 X.n1 X.k1 X.x2 X.x3 X.seen id p n k W1).mono λe w2 h=>?_;obtain⟨rfl,r2⟩:=h;exact hK w2 (r.trans (r1.trans r2))
theorem Rj{Wm:World}{N Wg UN b4 b3 b9 U5 c i:Nat}(X:cG Wm N UN b4 b3 b9 U5 c)(hi:i<N){id:Int}{p:Option Addr}{n k:Nat}(e1:X.ce[X.oe+i*2]? = some (.int .i64 id))(e2:X.ce[X.oe+i*2+1]? = some (.slice p n k)):bF Tryz.prog false Xa (l6 Wg UN b4 b3 b9 U5 c i) 30 Wm (dI X i id p n k) 14 (some (11,.tuple #[oN id p n k,.slice none 0 0])):=by refine bF.val (op:=.move (.tmp 25)) (ds:=[13]) (by kernel_rfl) (by kernel_rfl) λty pos after a W hS r U0=>?_;exact jG ((aU (U0 13 (by simp) 25 _ rfl)))
theorem Rh{Wm:World}{N Wg UN b4 b3 b9 U5 c i:Nat}(X:cG Wm N UN b4 b3 b9 U5 c)(hi:i<N){id:Int}{p:Option Addr}{n k:Nat}(e1:X.ce[X.oe+i*2]? = some (.int .i64 id))(e2:X.ce[X.oe+i*2+1]? = some (.slice p n k)):bF Tryz.prog false Xa (l6 Wg UN b4 b3 b9 U5 c i) 30 Wm (dI X i id p n k) 15 (some (26,oN id p n k)):=by refine bF.val (op:=.extract (.tmp 11) 0) (ds:=[14]) (by kernel_rfl) (by kernel_rfl) λty pos after a W hS r U0=>?_;exact kA ((aU (U0 14 (by simp) 11 _ rfl))) rfl
theorem Rg{Wm:World}{N Wg UN b4 b3 b9 U5 c i:Nat}(X:cG Wm N UN b4 b3 b9 U5 c)(hi:i<N){id:Int}{p:Option Addr}{n k:Nat}(e1:X.ce[X.oe+i*2]? = some (.int .i64 id))(e2:X.ce[X.oe+i*2+1]? = some (.slice p n k)):bF Tryz.prog false Xa (l6 Wg UN b4 b3 b9 U5 c i) 30 Wm (dI X i id p n k) 16 (some (27,.slice none 0 0)):=by refine bF.val (op:=.extract (.tmp 11) 1) (ds:=[14]) (by kernel_rfl) (by kernel_rfl) λty pos after a W hS r U0=>?_;exact kA ((aU (U0 14 (by simp) 11 _ rfl))) rfl
theorem Rf{Wm:World}{N Wg UN b4 b3 b9 U5 c i:Nat}(X:cG Wm N UN b4 b3 b9 U5 c)(hi:i<N){id:Int}{p:Option Addr}{n k:Nat}(e1:X.ce[X.oe+i*2]? = some (.int .i64 id))(e2:X.ce[X.oe+i*2+1]? = some (.slice p n k)):bF Tryz.prog false Xa (l6 Wg UN b4 b3 b9 U5 c i) 30 Wm (dI X i id p n k) 17 (some (28,qy X.be (X.oe+i*2))):=by refine bF.val (op:=.indexAddr 26 (.tmp 13) (.tmp 14)) (ds:=[1,2,15]) (by kernel_rfl) (by kernel_rfl) λty pos after a W hS r U0=>?_;obtain⟨inf,f1,f2⟩:=pk (t:=42) rfl;have:=kr (P:=Tryz.prog) (W:=W) (dst:=some 28) (ty:=ty) (pos:=pos) (after:=after) (guard:=none) (aU (U0 1 (by simp) 13 _ rfl)) (aU (U0 2 (by simp) 14 _ rfl)) (k:=(i:Int)) (by omega) jE f1;rw[bM,Int.toNat_natCast,f2] at this;exact this
theorem Re{Wm:World}{N Wg UN b4 b3 b9 U5 c i:Nat}(X:cG Wm N UN b4 b3 b9 U5 c)(hi:i<N){id:Int}{p:Option Addr}{n k:Nat}(e1:X.ce[X.oe+i*2]? = some (.int .i64 id))(e2:X.ce[X.oe+i*2+1]? = some (.slice p n k)):bF Tryz.prog false Xa (l6 Wg UN b4 b3 b9 U5 c i) 30 Wm (dI X i id p n k) 18 none:=by
 have hO:WN Xa 18=some (none,.store 42 (.tmp 28) (.tmp 26),none):=by kernel_rfl
 have hd:mn Xa 18 [17,15]=true:=by kernel_rfl
 obtain⟨ty,pos,after,ho⟩:=eF hO;refine⟨_,ty,pos,after,ho,λa W hS r U0 K hK=>⟨aa (kG _ _ _) λ_=>trivial,λW1 r1=>?_⟩⟩;have U0:∀j∈[17,15],∀d v,(dI X i id p n k)[j]? = some (some (d,v))->a.tmps[d]? = some v:=λj hj=>U0 j (jg ho hd hj);exact rH (t:=42) rfl (aU (U0 17 (by simp) 28 _ rfl)) (aU (U0 15 (by simp) 26 _ rfl)) ((r.trans r1).heap _ _ (X.hE (by omega))) (by rfl) (by decide) (λj u hj=>by
  match j,hj with
  | 0,hj=>obtain rfl:=Oi hj;exact⟨e1,rfl⟩
  | 1,hj=>obtain rfl:=Oi hj;exact⟨e2,rfl⟩
  | _+2,hj=>cases hj) (hK W1 (r.trans r1))
theorem Rc{Wm:World}{N Wg UN b4 b3 b9 U5 c i:Nat}(X:cG Wm N UN b4 b3 b9 U5 c)(hi:i<N){id:Int}{p:Option Addr}{n k:Nat}(e1:X.ce[X.oe+i*2]? = some (.int .i64 id))(e2:X.ce[X.oe+i*2+1]? = some (.slice p n k)):bF Tryz.prog false Xa (l6 Wg UN b4 b3 b9 U5 c i) 30 Wm (dI X i id p n k) 19 (some (29,qy X.bf (X.of_+i))):=by refine bF.val (op:=.indexAddr 189 (.tmp 15) (.tmp 16)) (ds:=[3,4]) (by kernel_rfl) (by kernel_rfl) λty pos after a W hS r U0=>?_;obtain⟨inf,f1,f2⟩:=pk (t:=47) rfl;have:=kr (P:=Tryz.prog) (W:=W) (dst:=some 29) (ty:=ty) (pos:=pos) (after:=after) (guard:=none) (aU (U0 3 (by simp) 15 _ rfl)) (aU (U0 4 (by simp) 16 _ rfl)) (k:=(i:Int)) (by omega) Cm f1;rw[bM,Int.toNat_natCast,f2] at this;rw[Nat.mul_one] at this;exact this
theorem Rb{Wm:World}{N Wg UN b4 b3 b9 U5 c i:Nat}(X:cG Wm N UN b4 b3 b9 U5 c)(hi:i<N){id:Int}{p:Option Addr}{n k:Nat}(e1:X.ce[X.oe+i*2]? = some (.int .i64 id))(e2:X.ce[X.oe+i*2+1]? = some (.slice p n k)):bF Tryz.prog false Xa (l6 Wg UN b4 b3 b9 U5 c i) 30 Wm (dI X i id p n k) 20 none:=by
 have hO:WN Xa 20=some (none,.store 47 (.tmp 29) (.tmp 27),none):=by kernel_rfl
 have hd:mn Xa 20 [19,16]=true:=by kernel_rfl
 obtain⟨ty,pos,after,ho⟩:=eF hO;refine⟨_,ty,pos,after,ho,λa W hS r U0 K hK=>⟨aa (kG _ _ _) λ_=>trivial,λW1 r1=>?_⟩⟩;have U0:∀j∈[19,16],∀d v,(dI X i id p n k)[j]? = some (some (d,v))->a.tmps[d]? = some v:=λj hj=>U0 j (jg ho hd hj);exact rH (t:=47) rfl (aU (U0 19 (by simp) 29 _ rfl)) (aU (U0 16 (by simp) 27 _ rfl)) ((r.trans r1).heap _ _ (X.hF (by omega))) (by rfl) (by decide) (λj u hj=>by
  match j,hj with
  | 0,hj=>obtain rfl:=Oi hj;exact⟨X.hFi i hi,rfl⟩
  | _+1,hj=>cases hj) (hK W1 (r.trans r1))
def mP:List (Option Nat):=[some 12,some 13,some 14,some 15,some 16,some 17,some 18,some 19,some 20,some 21,some 22,some 23,some 24,some 25,some 11,some 26,some 27,some 28,none,some 29,none]
theorem rD{Wm:World}{N UN b4 b3 b9 U5 c:Nat}(X:cG Wm N UN b4 b3 b9 U5 c){i:Nat}{id:Int}{p:Option Addr}{n k:Nat}{j d:Nat}{v:Value}(h:(dI X i id p n k)[j]? = some (some (d,v))):mP[j]? = some (some d):=by have:mP=(dI X i id p n k).map (·.map (·.1)):=rfl;rw[this,List.getElem?_map,h];rfl
theorem Ek{j j' d:Nat}(h:mP[j]? = some (some d))(h':mP[j']? = some (some d)):j=j':=by
 have hl:mP.length=21:=rfl;have a1:j<21:=by have:=(J'.1 h).1;omega
 have a2:j'<21:=by have:=(J'.1 h').1;omega
 have key:∀x y:Fin 21,mP[x.1]? = mP[y.1]?->mP[x.1]?≠some none->x=y:=by decide
 have:=key ⟨j,a1⟩ ⟨j',a2⟩ (h.trans h'.symm) (by rw[h];simp);exact Uo Fin.val this
theorem As{Wm:World}{N Wg UN b4 b3 b9 U5 c:Nat}(X:cG Wm N UN b4 b3 b9 U5 c){df:List Deferred}(i:Nat)(hi:i<N)(a:Act)(W:World)(r:Rv Wm W)(hS:Vy 30 a (l6 Wg UN b4 b3 b9 U5 c i))(hd:a.defers=df) :
  wpJ Tryz.prog false (.region 4 Xa true) (λe a' W'=>e=.normal∧Rv Wm W'∧Vy 30 a' (Bh Wg UN b4 b3 b9 U5 c)∧a'.defers=df) a W:=by
 obtain⟨id,p,n,k,e1,e2⟩:=X.hEi i hi;refine Kh (vals:=dI X i id p n k) follows (by kernel_rfl) (by kernel_rfl) (λj d v hj=>?_) (λj j' d v v' hj Yf=>?_) (λj x hj=>?_) hS hd r λa' W' hS' XJ r'=>⟨rfl,r',hS'.drop (by rfl),XJ⟩
 have h1:(some d:Option Nat)∈mP:=UF (rD X hj);have h2:8<=d∧d<30:=(by unfold mP at h1;simp at h1;omega);refine⟨h2.2,?_⟩;simp only[l6,Bh,au];rw[Uv (by omega),Uv (by omega),Uv (by omega),Uv (by omega),Uv (by omega),Uv (by omega),Uv (by omega),Uv (by omega)];rfl;exact Ek (rD X hj) (rD X Yf)
 ·match j,hj with
  | 0,hj=>obtain rfl:=Oi hj;exact TA X hi e1 e2
  | 1,hj=>obtain rfl:=Oi hj;exact Tz X hi e1 e2
  | 2,hj=>obtain rfl:=Oi hj;exact Ty X hi e1 e2
  | 3,hj=>obtain rfl:=Oi hj;exact Tx X hi e1 e2
  | 4,hj=>obtain rfl:=Oi hj;exact Tw X hi e1 e2
  | 5,hj=>obtain rfl:=Oi hj;exact Tv X hi e1 e2
  | 6,hj=>obtain rfl:=Oi hj;exact Tu X hi e1 e2
  | 7,hj=>obtain rfl:=Oi hj;exact Tt X hi e1 e2
  | 8,hj=>obtain rfl:=Oi hj;exact Ts X hi e1 e2
  | 9,hj=>obtain rfl:=Oi hj;exact Tq X hi e1 e2
  | 10,hj=>obtain rfl:=Oi hj;exact Rr X hi e1 e2
  | 11,hj=>obtain rfl:=Oi hj;exact Rq X hi e1 e2
  | 12,hj=>obtain rfl:=Oi hj;exact Ro X hi e1 e2
  | 13,hj=>obtain rfl:=Oi hj;exact Rn X hi e1 e2
  | 14,hj=>obtain rfl:=Oi hj;exact Rj X hi e1 e2
  | 15,hj=>obtain rfl:=Oi hj;exact Rh X hi e1 e2
  | 16,hj=>obtain rfl:=Oi hj;exact Rg X hi e1 e2
  | 17,hj=>obtain rfl:=Oi hj;exact Rf X hi e1 e2
  | 18,hj=>obtain rfl:=Oi hj;exact Re X hi e1 e2
  | 19,hj=>obtain rfl:=Oi hj;exact Rc X hi e1 e2
  | 20,hj=>obtain rfl:=Oi hj;exact Rb X hi e1 e2
  | _+21,hj=>cases hj
end
open Go.Conc.Lib Go.ConcR.Gen Go.ConcN.Gen
open Go.ConcR (KK wgBlock WgAt stA smA rd wr mk DC0)
structure KE (W:World) (N b4 b3 b9 U5:Nat) where
 cs9:Array Value
 cs10:Array Value
 cs3:Array Value
 ce:Array Value
 cf:Array Value
 fz9:Nat×Nat
 fz10:Nat×Nat
 fz3:Nat×Nat
 fz4:Nat×Nat
 be:Nat
 oe:Nat
 cap:Nat
 bf:Nat
 of_:Nat
 capf:Nat
 seen:Int
 p0:Option Addr
 k0:Nat
 p1:Option Addr
 n1:Nat
 k1:Nat
 x2:Int
 x3:Int
 h9:W.heap[b9]? = some (.cells cs9 28 fz9)
 sp:Option Addr
 sf:Option Addr
 h91:cs9[1]? = some (.slice sp N cap)
 hsp:0<N->sp=some ⟨be,oe,none⟩
 h10:W.heap[U5]? = some (.cells cs10 189 fz10)
 h100:cs10[0]? = some (.slice sf N capf)
 hsf:0<N->sf=some ⟨bf,of_,none⟩
 h3:W.heap[b3]? = some (.cells cs3 28 fz3)
 h30:cs3[0]? = some (.int .i64 seen)
 h4:W.heap[b4]? = some (.cells #[.slice p0 0 k0,.slice p1 n1 k1,.int .u64 x2,.int .i64 x3] 33 fz4)
 hE:0<N->W.heap[be]? = some (.cells ce 42 (0,0))
 hEi:∀i,i<N->∃id p n k,ce[oe+i*2]? = some (.int .i64 id)∧ce[oe+i*2+1]? = some (.slice p n k)
 hF:0<N->W.heap[bf]? = some (.cells cf 47 (0,0))
 hFi:∀i,i<N->cf[of_+i]? = some (.slice none 0 0)
section
variable {P:Program}{a:Act}{W:World}{dst:Option Tmp}{ty:TypeId}{pos:String}{after:Array Edge}{guard:Option (Nat×Bool)}
theorem pQ(W:World)(o:Obj):(W.alloc o).heap[W.heap.size]? = some o:=by show (W.heap.push o)[W.heap.size]? = some o;simp
theorem tI(W:World)(o:Obj):Rv W (W.alloc o):=⟨rfl,rfl,rfl,λb o' h=>by have hb:b<W.heap.size:=(E'.1 h).1;show (W.heap.push o)[b]? = _;rw[Array.getElem?_push,Uv (by omega)];exact h⟩
theorem vb{t:TypeId}{z:Value}(hz:∀w,(zeroValue t).run P w=.ok z w):(execOp a.eval ⟨dst,.alloc t,ty,pos,after,guard⟩).run P W=.ok (.value (.pointer (some ⟨W.heap.size,0,none⟩))) (W.alloc (.cells z.cells t)):=by simp only[execOp,Instr.alloc,UJ,hz,UH,newVar,newRow,run_newObj,UI];rfl
theorem uL{t:TypeId} : NS P (execOp a.eval ⟨dst,.alloc t,ty,pos,after,guard⟩):=aa (yj t) λ_=>trivial
theorem y9{t e:TypeId}{dir:ChanDir}{i:TypeInfo}{x:Operand}(ht:P.underlying t=some (.chan dir e))(hi:P.info? e=some i)(hx:a.eval x=.int .i64 0):(execOp a.eval ⟨dst,.makeChan t x,ty,pos,after,guard⟩).run P W=.ok (.value (.chan (some W.heap.size))) (W.alloc (.chan 0 #[] false 0 0 false)):=by have:=run_makeChan (w:=W) ht hi .i64 0 (by decide) (by simp);simp only[execOp,hx,UJ];rw[show (Value.int IntKind.i64 0)=Value.int IntKind.i64 ((0:Nat):Int) from rfl,this];rfl
theorem yf{t e:TypeId}{dir:ChanDir}{x:Operand} : NS P (execOp a.eval ⟨dst,.makeChan t x,ty,pos,after,guard⟩):=by refine aa ?_ λ_=>trivial;refine aa (cy _) λ_=>aa (ak _) λd=>?_;split;refine aa (aP _) λ_=>?_;split;refine aa (m:=runtimePanic _) (bc _) λ_=>?_;exact⟨trivial,λ_=>trivial⟩;exact⟨trivial,λ_=>trivial⟩;trivial
theorem E9{t:TypeId}{x y:Operand}{b:Nat}{bt:TypeId}{u v:Value}(hs:∀w,(Go.sizeOf t).run P w=.ok 1 w)(e:a.eval x=.pointer (some ⟨b,0,none⟩))(hb:W.heap[b]? = some (.cells #[u] bt (0,0)))(hy:a.eval y=v)(hl:v.cells=#[v])(h1:v.oneCell'=true) :
  (execOp a.eval ⟨none,.store t x y,ty,pos,after,guard⟩).run P W=.ok .skip (W.setRow b #[v]):=by
 have U4:=run_storeCells_at (P:=P) b 0 bt [v] 0 #[u] W hb (by simp) (by simpa using h1);simp only[execOp,e,hy,Instr.storeAt,Instr.sureAddr,storeVar,UJ,UI,UH,hs,hl];simp only[List.size_toArray,List.length_cons,List.length_nil,B',ne_eq,not_true_eq_false,if_false];rw[U4];simp
end
noncomputable def o5:Array Oper:=Wo (Ve p5)
noncomputable def o6:Array Oper:=Wo (Ve p6)
theorem R4:p5=.seq (.region 5 o5 false) p6:=by kernel_rfl
theorem R3:p6=.seq (.region 6 o6 false) p7:=by kernel_rfl
structure Q0 (l:List (Nat×Value)) (b3 b4 b9 U5:Nat):Prop where
 free:∀t,38<=t∨t=13∨t=11∨t=12->look l t=none
 n:look l 2=some (de 1)
 w:look l 3=some (ptr b3)
 s:look l 4=some (ptr b4)
 out:look l 9=some (ptr b9)
 fts:look l 10=some (ptr U5)
theorem pJ{c Wg:Nat}{Rm:Nat->Prop}{W Wm:World}(h:Q5 c Wg Rm W Wm){b:Nat}{cs:Array Value}{t:TypeId}{fz:Nat×Nat}(hb:W.heap[b]? = some (.cells cs t fz))(h1:b≠c)(h2:b≠Wg):∃fz',Wm.heap[b]? = some (.cells cs t fz')∧(¬Rm b->fz'=fz):=by by_cases hr:Rm b;obtain⟨X',t',fr,hi,e1,e2,-⟩:=h.lent b hr;rw[hb] at e1;injection e1 with e1;injection e1 with x1 x2 x3;subst x1 x2;exact⟨_,e2,λx=>Up hr x⟩;exact⟨fz,(h.same b h1 h2 hr).trans hb,λ_=>rfl⟩
section
variable {b3 b4 b9 U5 UN c Wg N:Nat}{b:Frame}{k:List Item}{cs:List Frame}{l:List (Nat×Value)}{Φ:Value->World->Prop}{w00:World}{S0:Nat->Prop}
def FW(W9:World)(c Wg b9 UN:Nat)(Wd:World):Prop:=∀(bb:Nat) (o:Obj),W9.heap[bb]? = some o->bb≠c->bb≠Wg->¬(bb=b9∨bb=UN)->Wd.heap[bb]? = some o
theorem sL{W9 W W1:World}(h:FW W9 c Wg b9 UN W)(r:Rv W W1):FW W9 c Wg b9 UN W1:=λbb o h1 h2 h3 h4=>r.heap _ _ (h bb o h1 h2 h3 h4)
noncomputable def GQ(c Wg b9 UN N:Nat)(b:Frame)(k:List Item)(cs:List Frame)(l:List (Nat×Value))(W9:World):Goroutine->World->Prop:=YU Tryz.prog c (λbb=>bb=b9∨bb=UN) (XB Tryz.prog link.tWg Wg c (qF b k cs l)) (Xs Tryz.prog link.tWg Wg (FW W9 c Wg b9 UN)) (sends 0 N)
theorem IW{W9 W W1:World}{g:Goroutine} : GQ c Wg b9 UN N b k cs l W9 g W->Rv W W1->GQ c Wg b9 UN N b k cs l W9 g W1:=
 λ⟨a,g1,ch,b,d0,d,e⟩ r=>⟨a,g1,ch,b,λx hx=>by obtain⟨o,ho⟩:=d0 x hx;exact⟨o,r.heap _ _ ho⟩,λW0 hW0=>d W0 λx hx=>by obtain⟨o,ho⟩:=d0 x hx;rw[hW0 x hx,r.heap _ _ ho,ho],e.later (λx y=>gI (D:=Xs Tryz.prog link.tWg Wg (FW W9 c Wg b9 UN)) (λh r=>⟨h.1,sL h.2 r⟩) x y) r⟩
set_option maxRecDepth 100000 in
set_option maxHeartbeats 2000000 in
theorem EF(hb:b.kind≠.early)(hf:b.fn=79)(hl:Q0 l b3 b4 b9 U5){W W9:World}(X:KE W N b4 b3 b9 U5)(hN:N<9223372036854775807)(Xc:w00.heap.size<=W.heap.size)(r:Rv W W9)(n1:W.heap.size<=c)(n2:W.heap.size<=Wg)(n3:W.heap.size<=UN)(hcw:c≠Wg)(h11c:UN≠c)(h11w:UN≠Wg)
  (Zm:W9.heap[Wg]? = some (wgBlock link.tWg 0 0)) (hc:W9.heap[c]? = some (.chan 0 #[] false 0 0 false)) (h11:W9.heap[UN]? = some (.cells #[.chan (some c)] 190 (0,0)))
  {a:Act} (hS:Vy 62 a ((40,de 0)::(39,de 1)::(12,ptr Wg)::(11,ptr UN)::l)) (hd:a.defers=[]) (hK:∀a' W',Vy 62 a' l->a'.defers=[]->Rv W W'->Er Tryz.prog Φ w00 S0 (G (b.at a' (.code p19::k)) cs) W') :
  Er Tryz.prog Φ w00 S0 (G (Frame.enter Tryz.prog 113 #[ptr Wg,.int .i64 1] .normal) (b.at a (.inRegion o9 [0]::IG k)::cs)) W9:=by
 have WO:N4 ((12,ptr Wg)::(11,ptr UN)::l) UN Wg:=⟨λt ht=>by simp only[au];rw[Uv (by omega),Uv (by omega)];exact hl.free t (by omega),rfl,rfl⟩
 have hO9:WN o9 0=some (some 42,.call ⟨.value (.func 113),#[.tmp 12,.const (.int .i64 1)],#[198,3]⟩,none):=by kernel_rfl
 obtain⟨ty9,pos9,after9,ho9⟩:=eF hO9;have lt:∀{bb:Nat} {o:Obj},W.heap[bb]? = some o->bb<W.heap.size:=λh=>(E'.1 h).1;refine phase (ty:=link.tWg) (Wg:=Wg) (c:=c) (Rm:=λbb=>bb=b9∨bb=UN) (lent0:=λbb=>W9.heap[bb]?) (Fa:=GJ b a o9 0 [] (IG k) cs) (Fin:=qF b k cs ((12,ptr Wg)::(11,ptr UN)::l)) (vs:=sends 0 N)
  (F:=FW W9 c Wg b9 UN) (λh r=>sL h r) (λg hg=>?_) (λg hg=>?_) hcw Zm hc ⟨by omega,by omega⟩ (λbb hbb=>?_) ?_ (λg hg W1 r1 Wm Yi=>?_) ?_
 obtain⟨a',-,-,rfl⟩:=hg;rfl;rw[hg.out];rfl;rcases hbb with rfl|rfl;have h9:=r.heap _ _ X.h9;have:=lt X.h9;refine⟨rfl,by omega,by omega,_,_,_,h9,?_⟩;have:=(E'.1 X.h91).1;omega;exact⟨rfl,h11w,h11c,_,_,_,h11,by simp⟩;exact ta (Q:=Q7 Tryz.prog true link.tWg Wg (GJ b a o9 0 [] (IG k) cs)) (Kl GY (b₀:=b) (a₀:=a) (ops₀:=o9) (i₀:=0) (rest₀:=[]) (k₀:=IG k) (cs:=cs)) (by kernel_rfl)
 ·obtain rfl:=hg.out;have hq:(o9[0]?).bind (·.dst)=some 42:=(by rw[ho9];rfl);rw[hq];have V1:Vy 62 (a.put (some 42) (.tuple #[])) ((40,de 0)::(39,de 1)::(12,ptr Wg)::(11,ptr UN)::l):=(hS.put (t:=42) (by decide) (.tuple #[])).drop (by simp only[au];rw[Uv (by decide),Uv (by decide)];exact hl.free 42 (by omega));have Wl:(a.put (some 42) (.tuple #[])).defers=[]:=hd;generalize a.put (some 42) (.tuple #[])=a1 at V1 Wl ⊢;have lk:∀{t:Nat} {v:Value},t<38->t≠11->t≠12->look l t=some v->look ((40,de 0)::(39,de 1)::(12,ptr Wg)::(11,ptr UN)::l) t=some v:=λh1 h2 h3 h4=>(by simp only[au];rw[Uv (by omega),Uv (by omega),Uv (by omega),Uv (by omega)];exact h4);have hE:=cV (P:=Tryz.prog) (Q:=GQ c Wg b9 UN N b k cs ((12,ptr Wg)::(11,ptr UN)::l) W9) (λh r=>IW h r);show Gs Tryz.prog (GQ c Wg b9 UN N b k cs ((12,ptr Wg)::(11,ptr UN)::l) W9) _ _;unfold IG;refine ao hE ?_;refine aQ hE _ _ 2 rfl (by kernel_rfl) ?_;refine AP (d:=43) (fn:=.func 114) (first:=#[]) (captured:=#[.tmp 12,.tmp 11,.tmp 4,.tmp 3,.tmp 9,.tmp 10]) hE hb (by kernel_rfl) V1 (by decide) λa2 Wt d2=>?_;have VG:(#[.tmp 12,.tmp 11,.tmp 4,.tmp 3,.tmp 9,.tmp 10]:Array Operand).map a1.eval=xa Wg UN b4 b3 b9 U5:=(by simp[xa,V1.ev (t:=12) rfl,V1.ev (t:=11) rfl,V1.ev (lk (by decide) (by decide) (by decide) hl.s),V1.ev (lk (by decide) (by decide) (by decide) hl.w),V1.ev (lk (by decide) (by decide) (by decide) hl.out),V1.ev (lk (by decide) (by decide) (by decide) hl.fts)]);rw[VG,show (#[]:Array Operand).map a1.eval=#[] by simp] at Wt;have hO:WN o10 1=some (none,.go ⟨.value (.tmp 43),#[],#[]⟩,none):=(by kernel_rfl);obtain⟨ty,pos,after,ho⟩:=eF hO;have hx:a2.eval (.tmp 43)=.func (.func 114) #[] (xa Wg UN b4 b3 b9 U5):=Wt.ev rfl;have c9:=pJ Yi (r1.heap _ _ (r.heap _ _ X.h9)) (by have:=lt X.h9;omega) (by have:=lt X.h9;omega);have c11:=pJ Yi (r1.heap _ _ h11) h11c h11w;obtain⟨z9,c9,-⟩:=c9;obtain⟨z11,c11,-⟩:=c11;refine .stop ⟨rfl,G (b.at a2 (.inRegion o10 []::.inBlock 1::.code (.region 11 o11 false)::.inLoop pX1::.inBlock 0::.code p12::k)) cs,born Tryz.prog (vz Wg UN b4 b3 b9 U5),λmain w=>?_,λbb hbb=>?_,λW0 hW0=>?_,?_⟩;have hr:(execOp a2.eval ⟨none,.go ⟨.value (.tmp 43),#[],#[]⟩,ty,pos,after,none⟩).run Tryz.prog w=.ok (.spawn (vz Wg UN b4 b3 b9 U5)) w:=(by simp only[execOp,resolve,hx,Deferred.ofValue,UJ,UI,UH];simp[vz]);have he:(execOp a2.eval ⟨none,.go ⟨.value (.tmp 43),#[],#[]⟩,ty,pos,after,none⟩).events Tryz.prog w #[]=#[]:=(by simp only[execOp,resolve,hx,Deferred.ofValue];rfl);refine(stepG_spawn ho rfl hb hr rfl).trans ?_;rw[listed_none he];rfl;rcases hbb with rfl|rfl;exact⟨_,c9⟩;exact⟨_,c11⟩;refine wy hb hf WO (b9:=b9) (by simp only[au];rw[Uv (by decide),Uv (by decide)];exact hl.out) (hW0 b9 (.inl rfl)▸c9) X.h91 (hW0 UN (.inr rfl)▸c11) hN (Wt.drop (by simp only[au];rw[Uv (by decide),Uv (by decide),Uv (by decide),Uv (by decide)];exact hl.free 43 (by omega))) (d2.trans Wl);have old:∀{bb:Nat} {ar:Array Value} {t:TypeId} {fz:Nat×Nat},W.heap[bb]? = some (.cells ar t fz)->∃fz',Wm.heap[bb]? = some (.cells ar t fz')∧(¬(bb=b9∨bb=UN)->fz'=fz):=λh=>pJ Yi (r1.heap _ _ (r.heap _ _ h)) (by have:=lt h;omega) (by have:=lt h;omega);obtain⟨z3,c3,-⟩:=old X.h3;obtain⟨z4,c4,-⟩:=old X.h4;obtain⟨z10,c10,-⟩:=old X.h10;have ne:∀{bb:Nat} {ar:Array Value} {t:TypeId} {fz:Nat×Nat},W.heap[bb]? = some (.cells ar t fz)->t≠28->¬(bb=b9∨bb=UN):=λh ht=>(by rintro(rfl|rfl);rw[X.h9] at h;injection h with h;injection h with h1 h2 h3;exact ht h2.symm;have:=lt h;omega);have cE:0<N->Wm.heap[X.be]? = some (.cells X.ce 42 (0,0)):=λhN=>(by obtain⟨ze,ce,he⟩:=old (X.hE hN);rw[he (ne (X.hE hN) (by decide))] at ce;exact ce);have cF:0<N->Wm.heap[X.bf]? = some (.cells X.cf 47 (0,0)):=λhN=>(by obtain⟨zf,cf,hf'⟩:=old (X.hF hN);rw[hf' (ne (X.hF hN) (by decide))] at cf;exact cf);have Y:cG Wm N UN b4 b3 b9 U5 c:=⟨X.cs9,X.cs10,X.cs3,X.ce,X.cf,z9,z10,z3,z4,z11,X.be,X.oe,X.cap,X.bf,X.of_,X.capf,X.seen,X.p0,X.k0,X.p1,X.n1,X.k1,X.x2,X.x3,c9,X.sp,X.sf,X.h91,X.hsp,c10,X.h100,X.hsf,c3,X.h30,c4,c11,cE,X.hEi,cF,X.hFi⟩
  exact Av (λh r=>sL h r) c11 (λi hi a W df r hS hd=>As Y i hi a W r hS hd) λW2 r2 bb o h1 h2 h3 h4=>r2.heap _ _ ((Yi.same bb h2 h3 h4).trans (r1.heap _ _ h1))
 rintro g ⟨a',hS',XJ,rfl⟩ Wend W' SJ hF hpo hsame hlent hlo hWg' hbas;refine ao (mw (co:=true)) (hK a' W' (hS'.sub λt u e=>?_) XJ ⟨hbas.os.trans r.os,hbas.tape.trans r.tape,hbas.output.trans r.output,λbb o h=>?_⟩);have n2:∀z,z=11∨z=12->¬(z=t):=λz hz x=>(by rw[<-x,hl.free z (by omega)] at e;cases e);simp only[au];rw[Uv (n2 12 (by omega)),Uv (n2 11 (by omega))];exact e;have UY:=lt h;have h9:=r.heap _ _ h;by_cases hr:bb=b9∨bb=UN;exact(hlent bb hr).trans h9;have hF':=hF bb o h9 (by omega) (by omega) hr;by_cases hs:SJ bb;have e:=hpo bb hs;rw[hF'] at e;obtain rfl:=Oi e;rcases hlo bb hs (by have:=r.size;omega) with x|x|x;omega;omega;exact x;exact hsame bb o hs hr hF'
end
end Go.Proofs.YtgigkennhdolpaaGreatDoor
