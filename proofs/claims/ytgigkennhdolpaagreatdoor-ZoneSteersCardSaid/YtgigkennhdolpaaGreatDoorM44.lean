/- Company, 48: the worker's work on entity i, without Systems: it lays back what stands there. (Printed by gen48.py.) Company, 49: workers.Parallel with one worker, without Systems: from the making of the channel to behind Wait. -/
import Derived.Test.YtgigkennhdolpaaGreatDoorM43
namespace Go.Proofs.YtgigkennhdolpaaGreatDoor
open Go.Conc Go.RowKit
def oV(b o:Nat):Value:=.pointer (some ⟨b,o,none⟩)
structure cB (W:World) (N b11 b4 b3 b9 b10 c:Nat) where
 cs9:Array Value
 cs10:Array Value
 cs3:Array Value
 ce:Array Value
 cf:Array Value
 fz9:Nat×Nat
 fz10:Nat×Nat
 fz3:Nat×Nat
 fz4:Nat×Nat
 fz11:Nat×Nat
 be:Nat
 oe:Nat
 cap:Nat
 bf:Nat
 of_:Nat
 capf:Nat
 seen:Int
 p0:Option Addr
 k0:Nat
 p1:Option Addr
 n1:Nat
 k1:Nat
 x2:Int
 x3:Int
 h9:W.heap[b9]? = some (.cells cs9 28 fz9)
 sp:Option Addr
 sf:Option Addr
 h91:cs9[1]? = some (.slice sp N cap)
 hsp:0<N→sp=some ⟨be,oe,none⟩
 h10:W.heap[b10]? = some (.cells cs10 189 fz10)
 h100:cs10[0]? = some (.slice sf N capf)
 hsf:0<N→sf=some ⟨bf,of_,none⟩
 h3:W.heap[b3]? = some (.cells cs3 28 fz3)
 h30:cs3[0]? = some (.int .i64 seen)
 h4:W.heap[b4]? = some (.cells #[.slice p0 0 k0,.slice p1 n1 k1,.int .u64 x2,.int .i64 x3] 33 fz4)
 h11:W.heap[b11]? = some (.cells #[.chan (some c)] 190 fz11)
 hE:0<N→W.heap[be]? = some (.cells ce 42 (0,0))
 hEi:∀i,i<N→∃id p n k,ce[oe+i*2]? = some (.int .i64 id)∧ce[oe+i*2+1]? = some (.slice p n k)
 hF:0<N→W.heap[bf]? = some (.cells cf 47 (0,0))
 hFi:∀i,i<N→cf[of_+i]? = some (.slice none 0 0)
def dj{Wm:World}{N b11 b4 b3 b9 b10 c:Nat}(X:cB Wm N b11 b4 b3 b9 b10 c)(i:Nat)(id:Int)(p:Option Addr)(n k:Nat):List (Option (Nat×Value)):=[some (12,oV b9 1),some (13,(.slice (some ⟨X.be,X.oe,none⟩) N X.cap)),some (14,cX i),some (15,(.slice (some ⟨X.bf,X.of_,none⟩) N X.capf)),some (16,cX i),some (17,np X.p0 X.k0 X.p1 X.n1 X.k1 X.x2 X.x3),some (18,oV b3 0),some (19,.int .i64 X.seen),some (20,oV b9 1),some (21,(.slice (some ⟨X.be,X.oe,none⟩) N X.cap)),some (22,cX i),some (23,oV X.be (X.oe+i*2)),some (24,nq id p n k),some (25,.tuple #[nq id p n k,.slice none 0 0]),some (11,.tuple #[nq id p n k,.slice none 0 0]),some (26,nq id p n k),some (27,.slice none 0 0),some (28,oV X.be (X.oe+i*2)),none,some (29,oV X.bf (X.of_+i)),none]
abbrev l6 (Wg b11 b4 b3 b9 b10 c i:Nat):List (Nat×Value):=(6,cX i)::ltab Wg b11 b4 b3 b9 b10 c
theorem cB.at9{Wm:World}{N b11 b4 b3 b9 b10 c i:Nat}(X:cB Wm N b11 b4 b3 b9 b10 c)(hi:i<N):X.cs9[1]? = some (.slice (some ⟨X.be,X.oe,none⟩) N X.cap):=by rw[←X.hsp (by omega)];exact X.h91
theorem cB.at10{Wm:World}{N b11 b4 b3 b9 b10 c i:Nat}(X:cB Wm N b11 b4 b3 b9 b10 c)(hi:i<N):X.cs10[0]? = some (.slice (some ⟨X.bf,X.of_,none⟩) N X.capf):=by rw[←X.hsf (by omega)];exact X.h100
theorem und_world0:∃fs f i,Tryz.prog.underlying 28=some (.struct fs)∧fs[0]? = some f∧Tryz.prog.info? f.type=some i∧i.size≠0∧f.offset=0:=by
 have h:kC cx 28 0=some (0,⟨1,8,.int .i64,[.il .i64 0],false⟩):=by rfl
 obtain⟨fs,f,i,d,e1,e2,e3,e4,e5,e6,e7⟩:=gY h
 exact⟨fs,f,i,e1,e2,e4,by rw[e6];decide,e3⟩
theorem nN{t:Nat}{ti:TI}(h:look types t=some ti):∃i,Tryz.prog.info? t=some i∧i.size=ti.sz:=by
 obtain⟨i,d,z,h1,h2,h3,-⟩:=(cx.ty h).ex
 exact⟨i,h1,h3⟩
theorem und_fts:Tryz.prog.underlying 189=some (.slice 47):=by kernel_rfl
theorem und_setup:∃fs,Tryz.prog.underlying 33=some (.struct fs):=⟨_,Tryz.underlying33⟩
theorem und_ent:∃fs,Tryz.prog.underlying 42=some (.struct fs):=⟨_,Tryz.underlying42⟩
theorem store_same{a:Act}{W:World}{K:Act→World→Prop}{t:Nat}{ti:TI}{x y:Operand}{ty:TypeId}{pos:String}{after:Array Edge}{b off:Nat}{cur:Array Value}{e:TypeId}{v:Value}(hti:look types t=some ti)(hx:a.eval x=.pointer (some ⟨b,off,none⟩))(hy:a.eval y=v)(hb:W.heap[b]? = some (.cells cur e (0,0)))
  (hl:v.cells.toList.length=ti.sz) (h0:0<ti.sz) (hc:∀j u,v.cells.toList[j]? = some u→cur[off+j]? = some u∧u.oneCell'=true) (hK:K (a.put none undef) W):dC Tryz.prog false ⟨none,.store t x y,ty,pos,after,none⟩ a W K:=by
 have hfit:off+ti.sz≤cur.toList.length:=by
  have hj:v.cells.toList[ti.sz-1]? = some (v.cells.toList[ti.sz-1]'(by omega)):=List.getElem?_eq_getElem _
  have:=(Array.getElem?_eq_some_iff.1 (hc _ _ hj).1).1
  simp;omega
 have hs:(cur.toList.take off++v.cells.toList++cur.toList.drop (off+ti.sz)).toArray=cur:=by
  apply Array.ext'
  rw[List.toList_toArray]
  apply List.ext_getElem?
  intro j
  rw[List.append_assoc]
  by_cases h1:j<off
  ·rw[List.getElem?_append_left (by rw[List.length_take];omega),List.getElem?_take_of_lt h1]
  ·rw[List.getElem?_append_right (by rw[List.length_take];omega),List.length_take,Nat.min_eq_left (by omega)]
   by_cases h2:j-off<ti.sz
   ·rw[List.getElem?_append_left (by omega)]
    have hj:=List.getElem?_eq_getElem (l:=v.cells.toList) (i:=j-off) (by omega)
    have h3:=(hc _ _ hj).1
    rw[show off+(j-off)=j by omega] at h3
    rw[hj,Array.getElem?_toList,h3]
   ·rw[List.getElem?_append_right (by omega),hl,List.getElem?_drop]
    congr 1
    omega
 have hr:=kD (C:=cx) (a:=a) (W:=W) (ty:=ty) (pos:=pos) (after:=after) (guard:=none) (u:=cur.toList) (bt:=e) hti hx (by rw[Array.toArray_toList];exact hb) (by rw[hy];exact hl) hfit (by rw[hy];exact fun u hu=>by obtain⟨j,hj⟩:=List.getElem?_of_mem hu;exact(hc j u hj).2)
 unfold dC
 rw[hr,hy,hs,setRow_self W b cur e (0,0) hb]
 exact hK
section
theorem wst0{Wm:World}{N Wg b11 b4 b3 b9 b10 c i:Nat}(X:cB Wm N b11 b4 b3 b9 b10 c)(hi:i<N){id:Int}{p:Option Addr}{n k:Nat}(e1:X.ce[X.oe+i*2]? = some (.int .i64 id))(e2:X.ce[X.oe+i*2+1]? = some (.slice p n k)):bG Tryz.prog false w4o (l6 Wg b11 b4 b3 b9 b10 c i) 30 Wm (dj X i id p n k) 0 (some (12,oV b9 1)):=by
 refine bG.val (op:=.fieldAddr 28 (.tmp 4) 1) (ds:=[]) (by kernel_rfl) (by kernel_rfl) fun ty pos after a W hS r hdep=>?_
 obtain⟨fs,f,inf,u1,u2,u3,u4,u5⟩:=nu
 have:=jx (P:=Tryz.prog) (a:=a) (x:=.tmp 4) (k:=1) (W:=W) (dst:=some 12) (ty:=ty) (pos:=pos) (after:=after) (guard:=none) (p:=⟨b9,0,none⟩) (hS.ev rfl) u1 u2 u3 u4
 rw[bO,u5] at this
 exact this
theorem wst1{Wm:World}{N Wg b11 b4 b3 b9 b10 c i:Nat}(X:cB Wm N b11 b4 b3 b9 b10 c)(hi:i<N){id:Int}{p:Option Addr}{n k:Nat}(e1:X.ce[X.oe+i*2]? = some (.int .i64 id))(e2:X.ce[X.oe+i*2+1]? = some (.slice p n k)):bG Tryz.prog false w4o (l6 Wg b11 b4 b3 b9 b10 c i) 30 Wm (dj X i id p n k) 1 (some (13,(.slice (some ⟨X.be,X.oe,none⟩) N X.cap))):=by
 refine bG.val (op:=.load 26 (.tmp 12)) (ds:=[0]) (by kernel_rfl) (by kernel_rfl) fun ty pos after a W hS r hdep=>?_
 exact ia (d:=_) ((bg (hdep 0 (by simp) 12 _ rfl))) iT (fun _ h=>by cases h) (fun _ _ h=>by cases h) (r.heap _ _ X.h9) (X.at9 hi)
theorem wst2{Wm:World}{N Wg b11 b4 b3 b9 b10 c i:Nat}(X:cB Wm N b11 b4 b3 b9 b10 c)(hi:i<N){id:Int}{p:Option Addr}{n k:Nat}(e1:X.ce[X.oe+i*2]? = some (.int .i64 id))(e2:X.ce[X.oe+i*2+1]? = some (.slice p n k)):bG Tryz.prog false w4o (l6 Wg b11 b4 b3 b9 b10 c i) 30 Wm (dj X i id p n k) 2 (some (14,cX i)):=by
 refine bG.val (op:=.move (.tmp 6)) (ds:=[]) (by kernel_rfl) (by kernel_rfl) fun ty pos after a W hS r hdep=>?_
 exact iV (hS.ev rfl)
theorem wst3{Wm:World}{N Wg b11 b4 b3 b9 b10 c i:Nat}(X:cB Wm N b11 b4 b3 b9 b10 c)(hi:i<N){id:Int}{p:Option Addr}{n k:Nat}(e1:X.ce[X.oe+i*2]? = some (.int .i64 id))(e2:X.ce[X.oe+i*2+1]? = some (.slice p n k)):bG Tryz.prog false w4o (l6 Wg b11 b4 b3 b9 b10 c i) 30 Wm (dj X i id p n k) 3 (some (15,(.slice (some ⟨X.bf,X.of_,none⟩) N X.capf))):=by
 refine bG.val (op:=.load 189 (.tmp 5)) (ds:=[]) (by kernel_rfl) (by kernel_rfl) fun ty pos after a W hS r hdep=>?_
 exact ia (d:=_) (hS.ev rfl) und_fts (fun _ h=>by cases h) (fun _ _ h=>by cases h) (r.heap _ _ X.h10) (X.at10 hi)
theorem wst4{Wm:World}{N Wg b11 b4 b3 b9 b10 c i:Nat}(X:cB Wm N b11 b4 b3 b9 b10 c)(hi:i<N){id:Int}{p:Option Addr}{n k:Nat}(e1:X.ce[X.oe+i*2]? = some (.int .i64 id))(e2:X.ce[X.oe+i*2+1]? = some (.slice p n k)):bG Tryz.prog false w4o (l6 Wg b11 b4 b3 b9 b10 c i) 30 Wm (dj X i id p n k) 4 (some (16,cX i)):=by
 refine bG.val (op:=.move (.tmp 6)) (ds:=[]) (by kernel_rfl) (by kernel_rfl) fun ty pos after a W hS r hdep=>?_
 exact iV (hS.ev rfl)
theorem wst5{Wm:World}{N Wg b11 b4 b3 b9 b10 c i:Nat}(X:cB Wm N b11 b4 b3 b9 b10 c)(hi:i<N){id:Int}{p:Option Addr}{n k:Nat}(e1:X.ce[X.oe+i*2]? = some (.int .i64 id))(e2:X.ce[X.oe+i*2+1]? = some (.slice p n k)):bG Tryz.prog false w4o (l6 Wg b11 b4 b3 b9 b10 c i) 30 Wm (dj X i id p n k) 5 (some (17,np X.p0 X.k0 X.p1 X.n1 X.k1 X.x2 X.x3)):=by
 refine bG.val (op:=.load 33 (.tmp 2)) (ds:=[]) (by kernel_rfl) (by kernel_rfl) fun ty pos after a W hS r hdep=>?_
 obtain⟨inf,f1,f2⟩:=nN (t:=33) rfl
 obtain⟨fs,f3⟩:=und_setup
 exact runs_loadN (cs:=[.slice X.p0 0 X.k0,.slice X.p1 X.n1 X.k1,.int .u64 X.x2,.int .i64 X.x3]) (hS.ev rfl) f1 f3 (.inl ⟨_,rfl⟩) f2 (r.heap _ _ X.h4) (fun j v hj=>by rw[Nat.zero_add];simpa using hj)
theorem wst6{Wm:World}{N Wg b11 b4 b3 b9 b10 c i:Nat}(X:cB Wm N b11 b4 b3 b9 b10 c)(hi:i<N){id:Int}{p:Option Addr}{n k:Nat}(e1:X.ce[X.oe+i*2]? = some (.int .i64 id))(e2:X.ce[X.oe+i*2+1]? = some (.slice p n k)):bG Tryz.prog false w4o (l6 Wg b11 b4 b3 b9 b10 c i) 30 Wm (dj X i id p n k) 6 (some (18,oV b3 0)):=by
 refine bG.val (op:=.fieldAddr 28 (.tmp 3) 0) (ds:=[]) (by kernel_rfl) (by kernel_rfl) fun ty pos after a W hS r hdep=>?_
 obtain⟨fs,f,inf,u1,u2,u3,u4,u5⟩:=und_world0
 have:=jx (P:=Tryz.prog) (a:=a) (x:=.tmp 3) (k:=0) (W:=W) (dst:=some 18) (ty:=ty) (pos:=pos) (after:=after) (guard:=none) (p:=⟨b3,0,none⟩) (hS.ev rfl) u1 u2 u3 u4
 rw[bO,u5] at this
 exact this
theorem wst7{Wm:World}{N Wg b11 b4 b3 b9 b10 c i:Nat}(X:cB Wm N b11 b4 b3 b9 b10 c)(hi:i<N){id:Int}{p:Option Addr}{n k:Nat}(e1:X.ce[X.oe+i*2]? = some (.int .i64 id))(e2:X.ce[X.oe+i*2+1]? = some (.slice p n k)):bG Tryz.prog false w4o (l6 Wg b11 b4 b3 b9 b10 c i) 30 Wm (dj X i id p n k) 7 (some (19,.int .i64 X.seen)):=by
 refine bG.val (op:=.load 3 (.tmp 18)) (ds:=[6]) (by kernel_rfl) (by kernel_rfl) fun ty pos after a W hS r hdep=>?_
 exact ia (d:=_) ((bg (hdep 6 (by simp) 18 _ rfl))) Tryz.underlying3 (fun _ h=>by cases h) (fun _ _ h=>by cases h) (r.heap _ _ X.h3) X.h30
theorem wst8{Wm:World}{N Wg b11 b4 b3 b9 b10 c i:Nat}(X:cB Wm N b11 b4 b3 b9 b10 c)(hi:i<N){id:Int}{p:Option Addr}{n k:Nat}(e1:X.ce[X.oe+i*2]? = some (.int .i64 id))(e2:X.ce[X.oe+i*2+1]? = some (.slice p n k)):bG Tryz.prog false w4o (l6 Wg b11 b4 b3 b9 b10 c i) 30 Wm (dj X i id p n k) 8 (some (20,oV b9 1)):=by
 refine bG.val (op:=.fieldAddr 28 (.tmp 4) 1) (ds:=[]) (by kernel_rfl) (by kernel_rfl) fun ty pos after a W hS r hdep=>?_
 obtain⟨fs,f,inf,u1,u2,u3,u4,u5⟩:=nu
 have:=jx (P:=Tryz.prog) (a:=a) (x:=.tmp 4) (k:=1) (W:=W) (dst:=some 20) (ty:=ty) (pos:=pos) (after:=after) (guard:=none) (p:=⟨b9,0,none⟩) (hS.ev rfl) u1 u2 u3 u4
 rw[bO,u5] at this
 exact this
theorem wst9{Wm:World}{N Wg b11 b4 b3 b9 b10 c i:Nat}(X:cB Wm N b11 b4 b3 b9 b10 c)(hi:i<N){id:Int}{p:Option Addr}{n k:Nat}(e1:X.ce[X.oe+i*2]? = some (.int .i64 id))(e2:X.ce[X.oe+i*2+1]? = some (.slice p n k)):bG Tryz.prog false w4o (l6 Wg b11 b4 b3 b9 b10 c i) 30 Wm (dj X i id p n k) 9 (some (21,(.slice (some ⟨X.be,X.oe,none⟩) N X.cap))):=by
 refine bG.val (op:=.load 26 (.tmp 20)) (ds:=[8]) (by kernel_rfl) (by kernel_rfl) fun ty pos after a W hS r hdep=>?_
 exact ia (d:=_) ((bg (hdep 8 (by simp) 20 _ rfl))) iT (fun _ h=>by cases h) (fun _ _ h=>by cases h) (r.heap _ _ X.h9) (X.at9 hi)
theorem wst10{Wm:World}{N Wg b11 b4 b3 b9 b10 c i:Nat}(X:cB Wm N b11 b4 b3 b9 b10 c)(hi:i<N){id:Int}{p:Option Addr}{n k:Nat}(e1:X.ce[X.oe+i*2]? = some (.int .i64 id))(e2:X.ce[X.oe+i*2+1]? = some (.slice p n k)):bG Tryz.prog false w4o (l6 Wg b11 b4 b3 b9 b10 c i) 30 Wm (dj X i id p n k) 10 (some (22,cX i)):=by
 refine bG.val (op:=.move (.tmp 6)) (ds:=[]) (by kernel_rfl) (by kernel_rfl) fun ty pos after a W hS r hdep=>?_
 exact iV (hS.ev rfl)
theorem wst11{Wm:World}{N Wg b11 b4 b3 b9 b10 c i:Nat}(X:cB Wm N b11 b4 b3 b9 b10 c)(hi:i<N){id:Int}{p:Option Addr}{n k:Nat}(e1:X.ce[X.oe+i*2]? = some (.int .i64 id))(e2:X.ce[X.oe+i*2+1]? = some (.slice p n k)):bG Tryz.prog false w4o (l6 Wg b11 b4 b3 b9 b10 c i) 30 Wm (dj X i id p n k) 11 (some (23,oV X.be (X.oe+i*2))):=by
 refine bG.val (op:=.indexAddr 26 (.tmp 21) (.tmp 22)) (ds:=[9,10]) (by kernel_rfl) (by kernel_rfl) fun ty pos after a W hS r hdep=>?_
 obtain⟨inf,f1,f2⟩:=nN (t:=42) rfl
 have:=jw (P:=Tryz.prog) (W:=W) (dst:=some 23) (ty:=ty) (pos:=pos) (after:=after) (guard:=none) (bg (hdep 9 (by simp) 21 _ rfl)) (bg (hdep 10 (by simp) 22 _ rfl)) (k:=(i:Int)) (by omega) iT f1
 rw[bO,Int.toNat_natCast,f2] at this
 exact this
theorem wst12{Wm:World}{N Wg b11 b4 b3 b9 b10 c i:Nat}(X:cB Wm N b11 b4 b3 b9 b10 c)(hi:i<N){id:Int}{p:Option Addr}{n k:Nat}(e1:X.ce[X.oe+i*2]? = some (.int .i64 id))(e2:X.ce[X.oe+i*2+1]? = some (.slice p n k)):bG Tryz.prog false w4o (l6 Wg b11 b4 b3 b9 b10 c i) 30 Wm (dj X i id p n k) 12 (some (24,nq id p n k)):=by
 refine bG.val (op:=.load 42 (.tmp 23)) (ds:=[11]) (by kernel_rfl) (by kernel_rfl) fun ty pos after a W hS r hdep=>?_
 obtain⟨inf,f1,f2⟩:=nN (t:=42) rfl
 obtain⟨fs,f3⟩:=und_ent
 exact runs_loadN (cs:=[.int .i64 id,.slice p n k]) (bg (hdep 11 (by simp) 23 _ rfl)) f1 f3 (.inl ⟨_,rfl⟩) f2 (r.heap _ _ (X.hE (by omega))) (fun j v hj=>by
  match j,hj with
  | 0,hj=>obtain rfl:=Oi hj;exact e1
  | 1,hj=>obtain rfl:=Oi hj;exact e2
  | _+2,hj=>cases hj)
set_option maxRecDepth 100000 in
theorem wst13{Wm:World}{N Wg b11 b4 b3 b9 b10 c i:Nat}(X:cB Wm N b11 b4 b3 b9 b10 c)(hi:i<N){id:Int}{p:Option Addr}{n k:Nat}(e1:X.ce[X.oe+i*2]? = some (.int .i64 id))(e2:X.ce[X.oe+i*2+1]? = some (.slice p n k)):bG Tryz.prog false w4o (l6 Wg b11 b4 b3 b9 b10 c i) 30 Wm (dj X i id p n k) 13 (some (25,.tuple #[nq id p n k,.slice none 0 0])):=by
 have hO:opk w4o 13=some (some 25,.call ⟨.value (.func 116),#[.tmp 17,.tmp 19,.tmp 24],#[33,3,42]⟩,none):=by kernel_rfl
 have hd:kU w4o 13 [5,7,12]=true:=by kernel_rfl
 obtain⟨ty,pos,after,ho⟩:=dT hO
 refine⟨_,ty,pos,after,ho,fun a W hS r hdep K hK=>⟨mL (x:=.func 116) rfl rfl (fun args=>iB Tryz.func116 (by kernel_rfl) args),fun W1 r1=>?_⟩⟩
 have hdep:∀j∈[5,7,12],∀d v,(dj X i id p n k)[j]? = some (some (d,v))→a.tmps[d]? = some v:=fun j hj=>hdep j (iF ho hd hj)
 unfold dC
 rw[mZ (al:=#[np X.p0 X.k0 X.p1 X.n1 X.k1 X.x2 X.x3,.int .i64 X.seen,nq id p n k]) (x:=.func 116) rfl rfl Tryz.call116 (by
  have h1:=bg (hdep 5 (by simp) 17 _ rfl)
  have h2:=bg (hdep 7 (by simp) 19 _ rfl)
  have h3:=bg (hdep 12 (by simp) 24 _ rfl)
  simp[h1,h2,h3])]
 refine(entity_calls X.p0 X.k0 X.p1 X.n1 X.k1 X.x2 X.x3 X.seen id p n k W1).mono fun e w2 h=>?_
 obtain⟨rfl,r2⟩:=h
 exact hK w2 (r.trans (r1.trans r2))
theorem wst14{Wm:World}{N Wg b11 b4 b3 b9 b10 c i:Nat}(X:cB Wm N b11 b4 b3 b9 b10 c)(hi:i<N){id:Int}{p:Option Addr}{n k:Nat}(e1:X.ce[X.oe+i*2]? = some (.int .i64 id))(e2:X.ce[X.oe+i*2+1]? = some (.slice p n k)):bG Tryz.prog false w4o (l6 Wg b11 b4 b3 b9 b10 c i) 30 Wm (dj X i id p n k) 14 (some (11,.tuple #[nq id p n k,.slice none 0 0])):=by
 refine bG.val (op:=.move (.tmp 25)) (ds:=[13]) (by kernel_rfl) (by kernel_rfl) fun ty pos after a W hS r hdep=>?_
 exact iV ((bg (hdep 13 (by simp) 25 _ rfl)))
theorem wst15{Wm:World}{N Wg b11 b4 b3 b9 b10 c i:Nat}(X:cB Wm N b11 b4 b3 b9 b10 c)(hi:i<N){id:Int}{p:Option Addr}{n k:Nat}(e1:X.ce[X.oe+i*2]? = some (.int .i64 id))(e2:X.ce[X.oe+i*2+1]? = some (.slice p n k)):bG Tryz.prog false w4o (l6 Wg b11 b4 b3 b9 b10 c i) 30 Wm (dj X i id p n k) 15 (some (26,nq id p n k)):=by
 refine bG.val (op:=.extract (.tmp 11) 0) (ds:=[14]) (by kernel_rfl) (by kernel_rfl) fun ty pos after a W hS r hdep=>?_
 exact jy ((bg (hdep 14 (by simp) 11 _ rfl))) rfl
theorem wst16{Wm:World}{N Wg b11 b4 b3 b9 b10 c i:Nat}(X:cB Wm N b11 b4 b3 b9 b10 c)(hi:i<N){id:Int}{p:Option Addr}{n k:Nat}(e1:X.ce[X.oe+i*2]? = some (.int .i64 id))(e2:X.ce[X.oe+i*2+1]? = some (.slice p n k)):bG Tryz.prog false w4o (l6 Wg b11 b4 b3 b9 b10 c i) 30 Wm (dj X i id p n k) 16 (some (27,.slice none 0 0)):=by
 refine bG.val (op:=.extract (.tmp 11) 1) (ds:=[14]) (by kernel_rfl) (by kernel_rfl) fun ty pos after a W hS r hdep=>?_
 exact jy ((bg (hdep 14 (by simp) 11 _ rfl))) rfl
theorem wst17{Wm:World}{N Wg b11 b4 b3 b9 b10 c i:Nat}(X:cB Wm N b11 b4 b3 b9 b10 c)(hi:i<N){id:Int}{p:Option Addr}{n k:Nat}(e1:X.ce[X.oe+i*2]? = some (.int .i64 id))(e2:X.ce[X.oe+i*2+1]? = some (.slice p n k)):bG Tryz.prog false w4o (l6 Wg b11 b4 b3 b9 b10 c i) 30 Wm (dj X i id p n k) 17 (some (28,oV X.be (X.oe+i*2))):=by
 refine bG.val (op:=.indexAddr 26 (.tmp 13) (.tmp 14)) (ds:=[1,2,15]) (by kernel_rfl) (by kernel_rfl) fun ty pos after a W hS r hdep=>?_
 obtain⟨inf,f1,f2⟩:=nN (t:=42) rfl
 have:=jw (P:=Tryz.prog) (W:=W) (dst:=some 28) (ty:=ty) (pos:=pos) (after:=after) (guard:=none) (bg (hdep 1 (by simp) 13 _ rfl)) (bg (hdep 2 (by simp) 14 _ rfl)) (k:=(i:Int)) (by omega) iT f1
 rw[bO,Int.toNat_natCast,f2] at this
 exact this
theorem wst18{Wm:World}{N Wg b11 b4 b3 b9 b10 c i:Nat}(X:cB Wm N b11 b4 b3 b9 b10 c)(hi:i<N){id:Int}{p:Option Addr}{n k:Nat}(e1:X.ce[X.oe+i*2]? = some (.int .i64 id))(e2:X.ce[X.oe+i*2+1]? = some (.slice p n k)):bG Tryz.prog false w4o (l6 Wg b11 b4 b3 b9 b10 c i) 30 Wm (dj X i id p n k) 18 none:=by
 have hO:opk w4o 18=some (none,.store 42 (.tmp 28) (.tmp 26),none):=by kernel_rfl
 have hd:kU w4o 18 [17,15]=true:=by kernel_rfl
 obtain⟨ty,pos,after,ho⟩:=dT hO
 refine⟨_,ty,pos,after,ho,fun a W hS r hdep K hK=>⟨ab (jF _ _ _) fun _=>trivial,fun W1 r1=>?_⟩⟩
 have hdep:∀j∈[17,15],∀d v,(dj X i id p n k)[j]? = some (some (d,v))→a.tmps[d]? = some v:=fun j hj=>hdep j (iF ho hd hj)
 exact store_same (t:=42) rfl (bg (hdep 17 (by simp) 28 _ rfl)) (bg (hdep 15 (by simp) 26 _ rfl)) ((r.trans r1).heap _ _ (X.hE (by omega))) (by rfl) (by decide) (fun j u hj=>by
  match j,hj with
  | 0,hj=>obtain rfl:=Oi hj;exact⟨e1,rfl⟩
  | 1,hj=>obtain rfl:=Oi hj;exact⟨e2,rfl⟩
  | _+2,hj=>cases hj) (hK W1 (r.trans r1))
theorem wst19{Wm:World}{N Wg b11 b4 b3 b9 b10 c i:Nat}(X:cB Wm N b11 b4 b3 b9 b10 c)(hi:i<N){id:Int}{p:Option Addr}{n k:Nat}(e1:X.ce[X.oe+i*2]? = some (.int .i64 id))(e2:X.ce[X.oe+i*2+1]? = some (.slice p n k)):bG Tryz.prog false w4o (l6 Wg b11 b4 b3 b9 b10 c i) 30 Wm (dj X i id p n k) 19 (some (29,oV X.bf (X.of_+i))):=by
 refine bG.val (op:=.indexAddr 189 (.tmp 15) (.tmp 16)) (ds:=[3,4]) (by kernel_rfl) (by kernel_rfl) fun ty pos after a W hS r hdep=>?_
 obtain⟨inf,f1,f2⟩:=nN (t:=47) rfl
 have:=jw (P:=Tryz.prog) (W:=W) (dst:=some 29) (ty:=ty) (pos:=pos) (after:=after) (guard:=none) (bg (hdep 3 (by simp) 15 _ rfl)) (bg (hdep 4 (by simp) 16 _ rfl)) (k:=(i:Int)) (by omega) und_fts f1
 rw[bO,Int.toNat_natCast,f2] at this
 rw[Nat.mul_one] at this
 exact this
theorem wst20{Wm:World}{N Wg b11 b4 b3 b9 b10 c i:Nat}(X:cB Wm N b11 b4 b3 b9 b10 c)(hi:i<N){id:Int}{p:Option Addr}{n k:Nat}(e1:X.ce[X.oe+i*2]? = some (.int .i64 id))(e2:X.ce[X.oe+i*2+1]? = some (.slice p n k)):bG Tryz.prog false w4o (l6 Wg b11 b4 b3 b9 b10 c i) 30 Wm (dj X i id p n k) 20 none:=by
 have hO:opk w4o 20=some (none,.store 47 (.tmp 29) (.tmp 27),none):=by kernel_rfl
 have hd:kU w4o 20 [19,16]=true:=by kernel_rfl
 obtain⟨ty,pos,after,ho⟩:=dT hO
 refine⟨_,ty,pos,after,ho,fun a W hS r hdep K hK=>⟨ab (jF _ _ _) fun _=>trivial,fun W1 r1=>?_⟩⟩
 have hdep:∀j∈[19,16],∀d v,(dj X i id p n k)[j]? = some (some (d,v))→a.tmps[d]? = some v:=fun j hj=>hdep j (iF ho hd hj)
 exact store_same (t:=47) rfl (bg (hdep 19 (by simp) 29 _ rfl)) (bg (hdep 16 (by simp) 27 _ rfl)) ((r.trans r1).heap _ _ (X.hF (by omega))) (by rfl) (by decide) (fun j u hj=>by
  match j,hj with
  | 0,hj=>obtain rfl:=Oi hj;exact⟨X.hFi i hi,rfl⟩
  | _+1,hj=>cases hj) (hK W1 (r.trans r1))
def lE:List (Option Nat):=[some 12,some 13,some 14,some 15,some 16,some 17,some 18,some 19,some 20,some 21,some 22,some 23,some 24,some 25,some 11,some 26,some 27,some 28,none,some 29,none]
theorem wdsts_at{Wm:World}{N b11 b4 b3 b9 b10 c:Nat}(X:cB Wm N b11 b4 b3 b9 b10 c){i:Nat}{id:Int}{p:Option Addr}{n k:Nat}{j d:Nat}{v:Value}(h:(dj X i id p n k)[j]? = some (some (d,v))):lE[j]? = some (some d):=by
 have:lE=(dj X i id p n k).map (·.map (·.1)):=rfl
 rw[this,List.getElem?_map,h]
 rfl
theorem wdsts_inj{j j' d:Nat}(h:lE[j]? = some (some d))(h':lE[j']? = some (some d)):j=j':=by
 have hl:lE.length=21:=rfl
 have a1:j<21:=by have:=(List.getElem?_eq_some_iff.1 h).1;omega
 have a2:j'<21:=by have:=(List.getElem?_eq_some_iff.1 h').1;omega
 have key:∀x y:Fin 21,lE[x.1]? = lE[y.1]?→lE[x.1]?≠some none→x=y:=by decide
 have:=key ⟨j,a1⟩ ⟨j',a2⟩ (h.trans h'.symm) (by rw[h];simp)
 exact congrArg Fin.val this
theorem work_round{Wm:World}{N Wg b11 b4 b3 b9 b10 c:Nat}(X:cB Wm N b11 b4 b3 b9 b10 c){df:List Deferred}(i:Nat)(hi:i<N)(a:Act)(W:World)(r:Rv Wm W)(hS:Sls 30 a (l6 Wg b11 b4 b3 b9 b10 c i))(hd:a.defers=df) :
  wpJ Tryz.prog false (.region 4 w4o true) (fun e a' W'=>e=.normal∧Rv Wm W'∧Sls 30 a' (ltab Wg b11 b4 b3 b9 b10 c)∧a'.defers=df) a W:=by
 obtain⟨id,p,n,k,e1,e2⟩:=X.hEi i hi
 refine any_vals (vals:=dj X i id p n k) follows (by kernel_rfl) (by kernel_rfl) (fun j d v hj=>?_) (fun j j' d v v' hj hj'=>?_) (fun j x hj=>?_) hS hd r fun a' W' hS' hd' r'=>⟨rfl,r',hS'.drop (by rfl),hd'⟩
 ·have h1:(some d:Option Nat)∈lE:=List.mem_of_getElem? (wdsts_at X hj)
  have h2:8≤d∧d<30:=by
   unfold lE at h1
   simp at h1
   omega
  refine⟨h2.2,?_⟩
  simp only[l6,ltab,av]
  rw[if_neg (by omega),if_neg (by omega),if_neg (by omega),if_neg (by omega),if_neg (by omega),if_neg (by omega),if_neg (by omega),if_neg (by omega)]
  rfl
 ·exact wdsts_inj (wdsts_at X hj) (wdsts_at X hj')
 ·match j,hj with
  | 0,hj=>obtain rfl:=Oi hj;exact wst0 X hi e1 e2
  | 1,hj=>obtain rfl:=Oi hj;exact wst1 X hi e1 e2
  | 2,hj=>obtain rfl:=Oi hj;exact wst2 X hi e1 e2
  | 3,hj=>obtain rfl:=Oi hj;exact wst3 X hi e1 e2
  | 4,hj=>obtain rfl:=Oi hj;exact wst4 X hi e1 e2
  | 5,hj=>obtain rfl:=Oi hj;exact wst5 X hi e1 e2
  | 6,hj=>obtain rfl:=Oi hj;exact wst6 X hi e1 e2
  | 7,hj=>obtain rfl:=Oi hj;exact wst7 X hi e1 e2
  | 8,hj=>obtain rfl:=Oi hj;exact wst8 X hi e1 e2
  | 9,hj=>obtain rfl:=Oi hj;exact wst9 X hi e1 e2
  | 10,hj=>obtain rfl:=Oi hj;exact wst10 X hi e1 e2
  | 11,hj=>obtain rfl:=Oi hj;exact wst11 X hi e1 e2
  | 12,hj=>obtain rfl:=Oi hj;exact wst12 X hi e1 e2
  | 13,hj=>obtain rfl:=Oi hj;exact wst13 X hi e1 e2
  | 14,hj=>obtain rfl:=Oi hj;exact wst14 X hi e1 e2
  | 15,hj=>obtain rfl:=Oi hj;exact wst15 X hi e1 e2
  | 16,hj=>obtain rfl:=Oi hj;exact wst16 X hi e1 e2
  | 17,hj=>obtain rfl:=Oi hj;exact wst17 X hi e1 e2
  | 18,hj=>obtain rfl:=Oi hj;exact wst18 X hi e1 e2
  | 19,hj=>obtain rfl:=Oi hj;exact wst19 X hi e1 e2
  | 20,hj=>obtain rfl:=Oi hj;exact wst20 X hi e1 e2
  | _+21,hj=>cases hj
end
open Go.Conc.Lib Go.ConcR.Gen Go.ConcN.Gen
open Go.ConcR (KK wgBlock WgAt stA smA rd wr mk DC0)
structure ParAt (W:World) (N b4 b3 b9 b10:Nat) where
 cs9:Array Value
 cs10:Array Value
 cs3:Array Value
 ce:Array Value
 cf:Array Value
 fz9:Nat×Nat
 fz10:Nat×Nat
 fz3:Nat×Nat
 fz4:Nat×Nat
 be:Nat
 oe:Nat
 cap:Nat
 bf:Nat
 of_:Nat
 capf:Nat
 seen:Int
 p0:Option Addr
 k0:Nat
 p1:Option Addr
 n1:Nat
 k1:Nat
 x2:Int
 x3:Int
 h9:W.heap[b9]? = some (.cells cs9 28 fz9)
 sp:Option Addr
 sf:Option Addr
 h91:cs9[1]? = some (.slice sp N cap)
 hsp:0<N→sp=some ⟨be,oe,none⟩
 h10:W.heap[b10]? = some (.cells cs10 189 fz10)
 h100:cs10[0]? = some (.slice sf N capf)
 hsf:0<N→sf=some ⟨bf,of_,none⟩
 h3:W.heap[b3]? = some (.cells cs3 28 fz3)
 h30:cs3[0]? = some (.int .i64 seen)
 h4:W.heap[b4]? = some (.cells #[.slice p0 0 k0,.slice p1 n1 k1,.int .u64 x2,.int .i64 x3] 33 fz4)
 hE:0<N→W.heap[be]? = some (.cells ce 42 (0,0))
 hEi:∀i,i<N→∃id p n k,ce[oe+i*2]? = some (.int .i64 id)∧ce[oe+i*2+1]? = some (.slice p n k)
 hF:0<N→W.heap[bf]? = some (.cells cf 47 (0,0))
 hFi:∀i,i<N→cf[of_+i]? = some (.slice none 0 0)
section
variable {P:Program}{a:Act}{W:World}{dst:Option Tmp}{ty:TypeId}{pos:String}{after:Array Edge}{guard:Option (Nat×Bool)}
theorem og(W:World)(o:Obj):(W.alloc o).heap[W.heap.size]? = some o:=by
 show (W.heap.push o)[W.heap.size]? = some o
 simp
theorem alloc_rv(W:World)(o:Obj):Rv W (W.alloc o):=⟨rfl,rfl,rfl,fun b o' h=>by
 have hb:b<W.heap.size:=(Array.getElem?_eq_some_iff.1 h).1
 show (W.heap.push o)[b]? = _
 rw[Array.getElem?_push,if_neg (by omega)];exact h⟩
theorem ex_alloc'{t:TypeId}{z:Value}(hz:∀w,(zeroValue t).run P w=.ok z w):(execOp a.eval ⟨dst,.alloc t,ty,pos,after,guard⟩).run P W=.ok (.value (.pointer (some ⟨W.heap.size,0,none⟩))) (W.alloc (.cells z.cells t)):=by
 simp only[execOp,Instr.alloc,Sem.run_bind,hz,Result.andThen_ok,newVar,newRow,run_newObj,Sem.run_pure]
 rfl
theorem ns_alloc'{t:TypeId} : NS P (execOp a.eval ⟨dst,.alloc t,ty,pos,after,guard⟩):=ab (ns_alloc t) fun _=>trivial
theorem ex_makeChan{t e:TypeId}{dir:ChanDir}{i:TypeInfo}{x:Operand}(ht:P.underlying t=some (.chan dir e))(hi:P.info? e=some i)(hx:a.eval x=.int .i64 0):(execOp a.eval ⟨dst,.makeChan t x,ty,pos,after,guard⟩).run P W=.ok (.value (.chan (some W.heap.size))) (W.alloc (.chan 0 #[] false 0 0 false)):=by
 have:=run_makeChan (w:=W) ht hi .i64 0 (by decide) (by simp)
 simp only[execOp,hx,Sem.run_bind]
 rw[show (Value.int IntKind.i64 0)=Value.int IntKind.i64 ((0:Nat):Int) from rfl,this]
 rfl
theorem ns_makeChan{t e:TypeId}{dir:ChanDir}{x:Operand} : NS P (execOp a.eval ⟨dst,.makeChan t x,ty,pos,after,guard⟩):=by
 refine ab ?_ fun _=>trivial
 refine ab (cp _) fun _=>ab (au _) fun d=>?_
 split
 ·refine ab (aN _) fun _=>?_
  split
  ·refine ab (m:=runtimePanic _) (br _) fun _=>?_
   exact⟨trivial,fun _=>trivial⟩
  ·exact⟨trivial,fun _=>trivial⟩
 ·trivial
theorem ex_store1{t:TypeId}{x y:Operand}{b:Nat}{bt:TypeId}{u v:Value}(hs:∀w,(Go.sizeOf t).run P w=.ok 1 w)(e:a.eval x=.pointer (some ⟨b,0,none⟩))(hb:W.heap[b]? = some (.cells #[u] bt (0,0)))(hy:a.eval y=v)(hl:v.cells=#[v])(h1:v.oneCell'=true) :
  (execOp a.eval ⟨none,.store t x y,ty,pos,after,guard⟩).run P W=.ok .skip (W.setRow b #[v]):=by
 have hst:=run_storeCells_at (P:=P) b 0 bt [v] 0 #[u] W hb (by simp) (by simpa using h1)
 simp only[execOp,e,hy,Instr.storeAt,Instr.sureAddr,storeVar,Sem.run_bind,Sem.run_pure,Result.andThen_ok,hs,hl]
 simp only[List.size_toArray,List.length_cons,List.length_nil,Nat.zero_add,ne_eq,not_true_eq_false,if_false]
 rw[hst]
 simp
end
noncomputable def o5:Array Oper:=rgo (sq1 p5)
noncomputable def o6:Array Oper:=rgo (sq1 p6)
theorem p5_is:p5=.seq (.region 5 o5 false) p6:=by kernel_rfl
theorem p6_is:p6=.seq (.region 6 o6 false) p7:=by kernel_rfl
structure LowP (l:List (Nat×Value)) (b3 b4 b9 b10:Nat):Prop where
 free:∀t,38≤t∨t=13∨t=11∨t=12→look l t=none
 n:look l 2=some (cX 1)
 w:look l 3=some (ptr b3)
 s:look l 4=some (ptr b4)
 out:look l 9=some (ptr b9)
 fts:look l 10=some (ptr b10)
theorem nY{c Wg:Nat}{Rm:Nat→Prop}{W Wm:World}(h:CutW c Wg Rm W Wm){b:Nat}{cs:Array Value}{t:TypeId}{fz:Nat×Nat}(hb:W.heap[b]? = some (.cells cs t fz))(h1:b≠c)(h2:b≠Wg):∃fz',Wm.heap[b]? = some (.cells cs t fz')∧(¬Rm b→fz'=fz):=by
 by_cases hr:Rm b
 ·obtain⟨cs',t',fr,hi,e1,e2,-⟩:=h.lent b hr
  rw[hb] at e1
  injection e1 with e1;injection e1 with x1 x2 x3
  subst x1 x2
  exact⟨_,e2,fun x=>absurd hr x⟩
 ·exact⟨fz,(h.same b h1 h2 hr).trans hb,fun _=>rfl⟩
section
variable {b3 b4 b9 b10 b11 c Wg N:Nat}{b:Frame}{k:List Item}{cs:List Frame}{l:List (Nat×Value)}{Φ:Value→World→Prop}{w00:World}{S0:Nat→Prop}
def FW(W9:World)(c Wg b9 b11:Nat)(Wd:World):Prop:=∀(bb:Nat) (o:Obj),W9.heap[bb]? = some o→bb≠c→bb≠Wg→¬(bb=b9∨bb=b11)→Wd.heap[bb]? = some o
theorem fw_later{W9 W W1:World}(h:FW W9 c Wg b9 b11 W)(r:Rv W W1):FW W9 c Wg b9 b11 W1:=fun bb o h1 h2 h3 h4=>r.heap _ _ (h bb o h1 h2 h3 h4)
noncomputable def GQ(c Wg b9 b11 N:Nat)(b:Frame)(k:List Item)(cs:List Frame)(l:List (Nat×Value))(W9:World):Goroutine→World→Prop:=GoQ Tryz.prog c (fun bb=>bb=b9∨bb=b11) (ClQ Tryz.prog link.tWg Wg c (FinP b k cs l)) (DnQ Tryz.prog link.tWg Wg (FW W9 c Wg b9 b11)) (sends 0 N)
theorem gq_later{W9 W W1:World}{g:Goroutine} : GQ c Wg b9 b11 N b k cs l W9 g W→Rv W W1→GQ c Wg b9 b11 N b k cs l W9 g W1:=
 fun⟨a,g1,ch,b,d0,d,e⟩ r=>⟨a,g1,ch,b,fun x hx=>by obtain⟨o,ho⟩:=d0 x hx;exact⟨o,r.heap _ _ ho⟩,fun W0 hW0=>d W0 fun x hx=>by obtain⟨o,ho⟩:=d0 x hx;rw[hW0 x hx,r.heap _ _ ho,ho],e.later (fun x y=>gg (D:=DnQ Tryz.prog link.tWg Wg (FW W9 c Wg b9 b11)) (fun h r=>⟨h.1,fw_later h.2 r⟩) x y) r⟩
set_option maxRecDepth 100000 in
set_option maxHeartbeats 2000000 in
theorem par_phase(hb:b.kind≠.early)(hf:b.fn=79)(hl:LowP l b3 b4 b9 b10){W W9:World}(X:ParAt W N b4 b3 b9 b10)(hN:N<9223372036854775807)(hsz:w00.heap.size≤W.heap.size)(r:Rv W W9)(n1:W.heap.size≤c)(n2:W.heap.size≤Wg)(n3:W.heap.size≤b11)(hcw:c≠Wg)(h11c:b11≠c)(h11w:b11≠Wg)
  (hWg:W9.heap[Wg]? = some (wgBlock link.tWg 0 0)) (hc:W9.heap[c]? = some (.chan 0 #[] false 0 0 false)) (h11:W9.heap[b11]? = some (.cells #[.chan (some c)] 190 (0,0)))
  {a:Act} (hS:Sls 62 a ((40,cX 0)::(39,cX 1)::(12,ptr Wg)::(11,ptr b11)::l)) (hd:a.defers=[]) (hK:∀a' W',Sls 62 a' l→a'.defers=[]→Rv W W'→Er Tryz.prog Φ w00 S0 (G (b.at a' (.code p19::k)) cs) W') :
  Er Tryz.prog Φ w00 S0 (G (Frame.enter Tryz.prog 113 #[ptr Wg,.int .i64 1] .normal) (b.at a (.inRegion o9 [0]::kAdd k)::cs)) W9:=by
 have hlow:LowT ((12,ptr Wg)::(11,ptr b11)::l) b11 Wg:=⟨fun t ht=>by
  simp only[av]
  rw[if_neg (by omega),if_neg (by omega)]
  exact hl.free t (by omega),rfl,rfl⟩
 have hO9:opk o9 0=some (some 42,.call ⟨.value (.func 113),#[.tmp 12,.const (.int .i64 1)],#[198,3]⟩,none):=by kernel_rfl
 obtain⟨ty9,pos9,after9,ho9⟩:=dT hO9
 have lt:∀{bb:Nat} {o:Obj},W.heap[bb]? = some o→bb<W.heap.size:=fun h=>(Array.getElem?_eq_some_iff.1 h).1
 refine phase (ty:=link.tWg) (Wg:=Wg) (c:=c) (Rm:=fun bb=>bb=b9∨bb=b11) (lent0:=fun bb=>W9.heap[bb]?) (Fa:=Back b a o9 0 [] (kAdd k) cs) (Fin:=FinP b k cs ((12,ptr Wg)::(11,ptr b11)::l)) (vs:=sends 0 N)
  (F:=FW W9 c Wg b9 b11) (fun h r=>fw_later h r) (fun g hg=>?_) (fun g hg=>?_) hcw hWg hc ⟨by omega,by omega⟩ (fun bb hbb=>?_) ?_ (fun g hg W1 r1 Wm hcut=>?_) ?_
 ·obtain⟨a',-,-,rfl⟩:=hg;rfl
 ·rw[hg.out];rfl
 ·rcases hbb with rfl|rfl
  ·have h9:=r.heap _ _ X.h9
   have:=lt X.h9
   refine⟨rfl,by omega,by omega,_,_,_,h9,?_⟩
   have:=(Array.getElem?_eq_some_iff.1 X.h91).1
   omega
  ·exact⟨rfl,h11w,h11c,_,_,_,h11,by simp⟩
 ·exact enter_as (Q:=AddW Tryz.prog true link.tWg Wg (Back b a o9 0 [] (kAdd k) cs)) (add_walk wgLib (b₀:=b) (a₀:=a) (ops₀:=o9) (i₀:=0) (rest₀:=[]) (k₀:=kAdd k) (cs:=cs)) (by kernel_rfl)
 ·obtain rfl:=hg.out
  have hq:(o9[0]?).bind (·.dst)=some 42:=by rw[ho9];rfl
  rw[hq]
  have hS1:Sls 62 (a.put (some 42) (.tuple #[])) ((40,cX 0)::(39,cX 1)::(12,ptr Wg)::(11,ptr b11)::l):=(hS.put (t:=42) (by decide) (.tuple #[])).drop (by
   simp only[av]
   rw[if_neg (by decide),if_neg (by decide)]
   exact hl.free 42 (by omega))
  have hd1:(a.put (some 42) (.tuple #[])).defers=[]:=hd
  generalize a.put (some 42) (.tuple #[])=a1 at hS1 hd1 ⊢
  have lk:∀{t:Nat} {v:Value},t<38→t≠11→t≠12→look l t=some v→look ((40,cX 0)::(39,cX 1)::(12,ptr Wg)::(11,ptr b11)::l) t=some v:=fun h1 h2 h3 h4=>by
   simp only[av]
   rw[if_neg (by omega),if_neg (by omega),if_neg (by omega),if_neg (by omega)]
   exact h4
  have hE:=cR (P:=Tryz.prog) (Q:=GQ c Wg b9 b11 N b k cs ((12,ptr Wg)::(11,ptr b11)::l) W9) (fun h r=>gq_later h r)
  show Gs Tryz.prog (GQ c Wg b9 b11 N b k cs ((12,ptr Wg)::(11,ptr b11)::l) W9) _ _
  unfold kAdd
  refine ao hE ?_
  refine aO hE _ _ 2 rfl (by kernel_rfl) ?_
  refine s_makeFunc (d:=43) (fn:=.func 114) (first:=#[]) (captured:=#[.tmp 12,.tmp 11,.tmp 4,.tmp 3,.tmp 9,.tmp 10]) hE hb (by kernel_rfl) hS1 (by decide) fun a2 hS2 d2=>?_
  have hcap:(#[.tmp 12,.tmp 11,.tmp 4,.tmp 3,.tmp 9,.tmp 10]:Array Operand).map a1.eval=capt Wg b11 b4 b3 b9 b10:=by
   simp[capt,hS1.ev (t:=12) rfl,hS1.ev (t:=11) rfl,hS1.ev (lk (by decide) (by decide) (by decide) hl.s),hS1.ev (lk (by decide) (by decide) (by decide) hl.w),hS1.ev (lk (by decide) (by decide) (by decide) hl.out),hS1.ev (lk (by decide) (by decide) (by decide) hl.fts)]
  rw[hcap,show (#[]:Array Operand).map a1.eval=#[] by simp] at hS2
  have hO:opk o10 1=some (none,.go ⟨.value (.tmp 43),#[],#[]⟩,none):=by kernel_rfl
  obtain⟨ty,pos,after,ho⟩:=dT hO
  have hx:a2.eval (.tmp 43)=.func (.func 114) #[] (capt Wg b11 b4 b3 b9 b10):=hS2.ev rfl
  have c9:=nY hcut (r1.heap _ _ (r.heap _ _ X.h9)) (by have:=lt X.h9;omega) (by have:=lt X.h9;omega)
  have c11:=nY hcut (r1.heap _ _ h11) h11c h11w
  obtain⟨z9,c9,-⟩:=c9
  obtain⟨z11,c11,-⟩:=c11
  refine .stop ⟨rfl,G (b.at a2 (.inRegion o10 []::.inBlock 1::.code (.region 11 o11 false)::.inLoop pX1::.inBlock 0::.code p12::k)) cs,born Tryz.prog (wDefer Wg b11 b4 b3 b9 b10),fun main w=>?_,fun bb hbb=>?_,fun W0 hW0=>?_,?_⟩
  ·have hr:(execOp a2.eval ⟨none,.go ⟨.value (.tmp 43),#[],#[]⟩,ty,pos,after,none⟩).run Tryz.prog w=.ok (.spawn (wDefer Wg b11 b4 b3 b9 b10)) w:=by
    simp only[execOp,resolve,hx,Deferred.ofValue,Sem.run_bind,Sem.run_pure,Result.andThen_ok]
    simp[wDefer]
   have he:(execOp a2.eval ⟨none,.go ⟨.value (.tmp 43),#[],#[]⟩,ty,pos,after,none⟩).events Tryz.prog w #[]=#[]:=by
    simp only[execOp,resolve,hx,Deferred.ofValue]
    rfl
   refine(stepG_spawn ho rfl hb hr rfl).trans ?_
   rw[listed_none he]
   rfl
  ·rcases hbb with rfl|rfl
   ·exact⟨_,c9⟩
   ·exact⟨_,c11⟩
  ·refine main_spawned hb hf hlow (b9:=b9) (by simp only[av];rw[if_neg (by decide),if_neg (by decide)];exact hl.out) (hW0 b9 (.inl rfl)▸c9) X.h91 (hW0 b11 (.inr rfl)▸c11) hN (hS2.drop (by
    simp only[av]
    rw[if_neg (by decide),if_neg (by decide),if_neg (by decide),if_neg (by decide)]
    exact hl.free 43 (by omega))) (d2.trans hd1)
  ·have old:∀{bb:Nat} {ar:Array Value} {t:TypeId} {fz:Nat×Nat},W.heap[bb]? = some (.cells ar t fz)→∃fz',Wm.heap[bb]? = some (.cells ar t fz')∧(¬(bb=b9∨bb=b11)→fz'=fz):=fun h=>nY hcut (r1.heap _ _ (r.heap _ _ h)) (by have:=lt h;omega) (by have:=lt h;omega)
   obtain⟨z3,c3,-⟩:=old X.h3
   obtain⟨z4,c4,-⟩:=old X.h4
   obtain⟨z10,c10,-⟩:=old X.h10
   have ne:∀{bb:Nat} {ar:Array Value} {t:TypeId} {fz:Nat×Nat},W.heap[bb]? = some (.cells ar t fz)→t≠28→¬(bb=b9∨bb=b11):=fun h ht=>by
    rintro(rfl|rfl)
    ·rw[X.h9] at h
     injection h with h;injection h with h1 h2 h3
     exact ht h2.symm
    ·have:=lt h;omega
   have cE:0<N→Wm.heap[X.be]? = some (.cells X.ce 42 (0,0)):=fun hN=>by
    obtain⟨ze,ce,he⟩:=old (X.hE hN)
    rw[he (ne (X.hE hN) (by decide))] at ce
    exact ce
   have cF:0<N→Wm.heap[X.bf]? = some (.cells X.cf 47 (0,0)):=fun hN=>by
    obtain⟨zf,cf,hf'⟩:=old (X.hF hN)
    rw[hf' (ne (X.hF hN) (by decide))] at cf
    exact cf
   have Y:cB Wm N b11 b4 b3 b9 b10 c:=⟨X.cs9,X.cs10,X.cs3,X.ce,X.cf,z9,z10,z3,z4,z11,X.be,X.oe,X.cap,X.bf,X.of_,X.capf,X.seen,X.p0,X.k0,X.p1,X.n1,X.k1,X.x2,X.x3,c9,X.sp,X.sf,X.h91,X.hsp,c10,X.h100,X.hsf,c3,X.h30,c4,c11,cE,X.hEi,cF,X.hFi⟩
   exact work_child (fun h r=>fw_later h r) c11 (fun i hi a W df r hS hd=>work_round Y i hi a W r hS hd) fun W2 r2 bb o h1 h2 h3 h4=>r2.heap _ _ ((hcut.same bb h2 h3 h4).trans (r1.heap _ _ h1))
 ·rintro g ⟨a',hS',hd',rfl⟩ Wend W' SJ hF hpo hsame hlent hlo hWg' hbas
  refine ao (kZ (co:=true)) (hK a' W' (hS'.sub fun t u e=>?_) hd' ⟨hbas.os.trans r.os,hbas.tape.trans r.tape,hbas.output.trans r.output,fun bb o h=>?_⟩)
  ·have n2:∀z,z=11∨z=12→¬(z=t):=fun z hz x=>by rw[←x,hl.free z (by omega)] at e;cases e
   simp only[av]
   rw[if_neg (n2 12 (by omega)),if_neg (n2 11 (by omega))]
   exact e
  ·have hlt:=lt h
   have h9:=r.heap _ _ h
   by_cases hr:bb=b9∨bb=b11
   ·exact(hlent bb hr).trans h9
   ·have hF':=hF bb o h9 (by omega) (by omega) hr
    by_cases hs:SJ bb
    ·have e:=hpo bb hs
     rw[hF'] at e
     obtain rfl:=Oi e
     rcases hlo bb hs (by have:=r.size;omega) with x|x|x
     ·omega
     ·omega
     ·exact x
    ·exact hsame bb o hs hr hF'
end
end Go.Proofs.YtgigkennhdolpaaGreatDoor
