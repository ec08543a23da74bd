/- Company, 38: parts of a piece of code; one step at each, with the table of temporaries; the library's walks, up to a weaker stop. order.Valid of no Systems: by hand (its map has strings for keys). Structures of the zone; readers. A contract whose result is a structure of a number and a list that nobody else has, with lists inside. workers.Valid of the setup without Systems and programs. -/
import Derived.Test.YtgigkennhdolpaaGreatDoorM28
import Derived.KernelRfl
import Derived.Test.YtgigkennhdolpaaGreatDoorM19
import Derived.Test.YtgigkennhdolpaaGreatDoorM17
namespace Go.Proofs.YtgigkennhdolpaaGreatDoor
open Go.Conc Go.RowKit
def sq1:Code→Code|.seq x _=>x|c=>c
def sq2:Code→Code|.seq _ y=>y|c=>c
def lin:Code→Code|.loop x=>x|c=>c
def bin:Code→Code|.block _ x=>x|c=>c
def cn1:Code→Code|.cond _ x _=>x|c=>c
def rgo:Code→Array Oper|.region _ ops _=>ops|_=>#[]
def fN(f:Func):Code:=f.body.getD .skip
def opk(ops:Array Oper)(i:Nat):Option (Option Tmp×Op×Option (Nat×Bool)):=(ops[i]?).map fun o=>(o.dst,o.op,o.guard)
theorem dT{ops:Array Oper}{i:Nat}{d:Option Tmp}{op:Op}(h:opk ops i=some (d,op,none)):∃ty pos after,ops[i]? = some ⟨d,op,ty,pos,after,none⟩:=by
 unfold opk at h
 cases ho:ops[i]? with
 | none=>rw[ho] at h;cases h
 | some o=>
  obtain⟨d',op',ty,pos,after,g⟩:=o
  rw[ho] at h
  injection h with h
  injection h with h1 h2
  injection h2 with h2 h3
  subst h1 h2 h3
  exact⟨ty,pos,after,rfl⟩
section
variable {P:Program}{co:Bool}{E:Goroutine→World→Prop}{b:Frame}{a:Act}{k:List Item}{cs:List Frame}{W:World}{c:Code}{n:Nat}{l:List (Nat×Value)}
theorem bU(hE:Closed P co E)(x y:Code)(hc:c=.seq x y)(h:E (G (b.at a (.code x::.code y::k)) cs) W):E (G (b.at a (.code c::k)) cs) W:=hc▸e_seq hE h
theorem ju(hE:Closed P co E)(hc:c=.skip)(h:E (G (b.at a k) cs) W):E (G (b.at a (.code c::k)) cs) W:=hc▸e_skip hE h
theorem jv(hE:Closed P co E)(id:Nat)(x:Code)(hc:c=.block id x)(h:E (G (b.at a (.code x::.inBlock id::k)) cs) W):E (G (b.at a (.code c::k)) cs) W:=hc▸e_block hE h
theorem s_loop(hE:Closed P co E)(x:Code)(hc:c=.loop x)(h:E (G (b.at a (.code x::.inLoop x::k)) cs) W):E (G (b.at a (.code c::k)) cs) W:=hc▸e_loop hE h
theorem s_exit(hE:Closed P co E)(id:Nat)(hc:c=.exit id)(k':List Item)(hx:exitTo id k=some k')(h:E (G (b.at a k') cs) W):E (G (b.at a (.code c::k)) cs) W:=hc▸e_exit hE hx h
theorem fW(hE:Closed P co E)(t:Nat)(x y:Code)(hc:c=.cond (.tmp t) x y)(hS:Sls n a l)(v:Bool)(hv:look l t=some (.bool v))(h:E (G (b.at a (.code (if v then x else y)::k)) cs) W):E (G (b.at a (.code c::k)) cs) W:=hc▸e_cond hE (hS.ev hv) h
theorem aO(hE:Closed P co E)(ops:Array Oper)(id m:Nat)(hc:c=.region id ops false)(hm:ops.size=m)(h:E (G (b.at a (.inRegion ops (List.range m)::k)) cs) W):E (G (b.at a (.code c::k)) cs) W:=by
 subst hm
 exact hc▸e_region hE h
variable {ops:Array Oper}{i d:Nat}{rest:List Nat}
def Nxt(E:Goroutine→World→Prop)(b:Frame)(k:List Item)(cs:List Frame)(ops:Array Oper)(rest:List Nat)(n d:Nat)(a:Act)(l:List (Nat×Value))(v:Value)(W:World):Prop:=
 ∀a',Sls n a' ((d,v)::l)→a'.defers=a.defers→E (G (b.at a' (.inRegion ops rest::k)) cs) W
theorem gD(hE:Closed P co E)(hk:b.kind≠.early){op:Op}(hO:opk ops i=some (some d,op,none))(hS:Sls n a l)(hd:d<n)(v:Value)(hr:∀ty pos after,lz P a ⟨some d,op,ty,pos,after,none⟩ W v)(h:Nxt E b k cs ops rest n d a l v W):E (G (b.at a (.inRegion ops (i::rest)::k)) cs) W:=by
 obtain⟨ty,pos,after,ho⟩:=dT hO
 exact e_val hE hk ho rfl (hr ty pos after) (h _ (hS.put hd v) rfl)
theorem db(hE:Closed P co E)(hk:b.kind≠.early){x:Operand}(hO:opk ops i=some (some d,.move x,none))(hS:Sls n a l)(hd:d<n)(v:Value)(hv:a.eval x=v)(h:Nxt E b k cs ops rest n d a l v W):E (G (b.at a (.inRegion ops (i::rest)::k)) cs) W:=
 gD hE hk hO hS hd v (fun _ _ _=>iV hv) h
theorem eO(hE:Closed P co E)(hk:b.kind≠.early){x:Operand}(hO:opk ops i=some (some d,.assign x,none))(hS:Sls n a l)(hd:d<n)(v:Value)(hv:a.eval x=v)(h:Nxt E b k cs ops rest n d a l v W):E (G (b.at a (.inRegion ops (i::rest)::k)) cs) W:=
 gD hE hk hO hS hd v (fun _ _ _=>runs_assign hv) h
theorem s_lss(hE:Closed P co E)(hk:b.kind≠.early){t yt:TypeId}{x y:Operand}{p q:Int}(hO:opk ops i=some (some d,.binOp .lss t x y yt,none))(hS:Sls n a l)(hd:d<n)(hx:a.eval x=.int .i64 p)(hy:a.eval y=.int .i64 q)(h:Nxt E b k cs ops rest n d a l (.bool (decide (p<q))) W):E (G (b.at a (.inRegion ops (i::rest)::k)) cs) W:=
 gD hE hk hO hS hd _ (fun _ _ _=>j8 hx hy fun w=>rfl) h
theorem s_add(hE:Closed P co E)(hk:b.kind≠.early){t yt:TypeId}{x y:Operand}{p q:Int}(hO:opk ops i=some (some d,.binOp .add t x y yt,none))(hS:Sls n a l)(hd:d<n)(hx:a.eval x=.int .i64 p)(hy:a.eval y=.int .i64 q)(h:Nxt E b k cs ops rest n d a l (.int .i64 (IntKind.i64.wrap (p+q))) W):E (G (b.at a (.inRegion ops (i::rest)::k)) cs) W:=
 gD hE hk hO hS hd _ (fun _ _ _=>j8 hx hy fun w=>rfl) h
theorem s_load1(hE:Closed P co E)(hk:b.kind≠.early){t:TypeId}{x:Operand}{dd:TypeDesc}{bb off:Nat}{c:Array Value}{e:TypeId}{fz:Nat×Nat}(hO:opk ops i=some (some d,.load t x,none))(hS:Sls n a l)(hd:d<n)(hx:a.eval x=.pointer (some ⟨bb,off,none⟩))(hu:P.underlying t=some dd)(h1:∀fs,dd≠.struct fs)(h2:∀n e,dd≠.array n e)(hb:W.heap[bb]? = some (.cells c e fz))(v:Value)(hv:c[off]? = some v)(h:Nxt E b k cs ops rest n d a l v W):E (G (b.at a (.inRegion ops (i::rest)::k)) cs) W:=
 gD hE hk hO hS hd v (fun _ _ _=>ia hx hu h1 h2 hb hv) h
theorem s_field(hE:Closed P co E)(hk:b.kind≠.early){s:TypeId}{x:Operand}{kk:Nat}{fs:Array Field}{f:Field}{inf:TypeInfo}{p:Addr}(hO:opk ops i=some (some d,.fieldAddr s x kk,none))(hS:Sls n a l)(hd:d<n)(hx:a.eval x=.pointer (some p))(hu:P.underlying s=some (.struct fs))(hf:fs[kk]? = some f)(hi:P.info? f.type=some inf)(hs:inf.size≠0)(h:Nxt E b k cs ops rest n d a l (.pointer (some (p.add f.offset))) W):E (G (b.at a (.inRegion ops (i::rest)::k)) cs) W:=
 gD hE hk hO hS hd _ (fun _ _ _=>jx hx hu hf hi hs) h
theorem nA(hE:Closed P co E)(hk:b.kind≠.early){x:Operand}{kk:Nat}{vs:Array Value}(hO:opk ops i=some (some d,.extract x kk,none))(hS:Sls n a l)(hd:d<n)(hx:a.eval x=.tuple vs)(v:Value)(hv:vs[kk]? = some v)(h:Nxt E b k cs ops rest n d a l v W):E (G (b.at a (.inRegion ops (i::rest)::k)) cs) W:=
 gD hE hk hO hS hd v (fun _ _ _=>jy hx hv) h
theorem s_len(hE:Closed P co E)(hk:b.kind≠.early){x:Operand}{t:TypeId}{p:Option Addr}{len cap:Nat}(hO:opk ops i=some (some d,.call ⟨.builtin .len,#[x],#[t]⟩,none))(hS:Sls n a l)(hd:d<n)(hx:a.eval x=.slice p len cap)(he:∃e,P.underlying t=some (.slice e))(h:Nxt E b k cs ops rest n d a l (goInt len) W):E (G (b.at a (.inRegion ops (i::rest)::k)) cs) W:=
 gD hE hk hO hS hd _ (fun _ _ _=>runs_len rfl rfl rfl hx he) h
theorem s_makeFunc(hE:Closed P co E)(hk:b.kind≠.early){fn:Fn}{first captured:Array Operand}(hO:opk ops i=some (some d,.makeFunc fn first captured,none))(hS:Sls n a l)(hd:d<n)(h:Nxt E b k cs ops rest n d a l (.func fn (first.map a.eval) (captured.map a.eval)) W):E (G (b.at a (.inRegion ops (i::rest)::k)) cs) W:=
 gD hE hk hO hS hd _ (fun _ _ _=>runs_makeFunc) h
end
section
variable {P:Program}{main:Bool}{ty:TypeId}{Wg:Nat}{S S':Goroutine→Prop}{g:Goroutine}
theorem goes_post{R:World→World→Prop}{D:World→World→Array Event→Prop}{S S':Goroutine→World→Prop}(hS:∀g w,S g w→S' g w):∀(n:Nat) (g:Goroutine) (w:World),Goes P main R D S n g w→Goes P main R D S' n g w
 | 0,_,_,h=>fun w1 r=>hS _ _ (h w1 r)
 | n+1,g,w,h=>h.elim (fun h=>.inl fun w1 r=>hS _ _ (h w1 r)) fun h=>.inr ⟨h.1,fun w1 r=>by
   have:=h.2 w1 r
   revert this
   cases stepG P main g w1 with
   | go g' w' es=>exact fun⟨x,y⟩=>⟨x,goes_post hS n g' w' y⟩
   | _=>exact fun h=>h.elim⟩
theorem gb(hS:∀g,S g→S' g)(h:Lq P main ty Wg S g):Lq P main ty Wg S' g:=h.imp fun n h w hw=>goes_post (fun g _=>hS g) n g w (h w hw)
theorem nf{m:Mark}(hS:∀g,S g→S' g)(h:AMk P main m S g):AMk P main m S' g:=⟨h.1,h.2.imp fun g' h=>⟨h.1,hS _ h.2⟩⟩
theorem ald_mono(hS:∀g,S g→S' g)(h:ALd P main ty Wg S g):ALd P main ty Wg S' g:=⟨h.1,h.2.imp fun g' h=>⟨h.1,hS _ h.2⟩⟩
theorem asem_mono(hS:∀g,S g→S' g)(h:ASem P main ty Wg S g):ASem P main ty Wg S' g:=⟨h.1,h.2.1,h.2.2.1,h.2.2.2.imp fun g' h=>⟨h.1,hS _ h.2⟩⟩
theorem lV(hS:∀g,S g→S' g):∀g,jl P main ty Wg S g→jl P main ty Wg S' g:=fun _ h=>gb (fun _ h=>nf (fun _ h=>gb (fun _ h=>nf (fun _ h=>gb hS h) h) h) h) h
theorem wreg_mono(hS:∀g,S g→S' g):∀g,WReg P main ty Wg S g→WReg P main ty Wg S' g:=fun _ h=>gb (fun _ h=>nf (fun _ h=>gb (fun _ h=>asem_mono (fun _ h=>gb (fun _ h=>ald_mono (lV hS) h) h) h) h) h) h
theorem wcas_mono(hS:∀g,S g→S' g):∀g,WCas P main ty Wg S g→WCas P main ty Wg S' g:=fun _ h=>gb (fun _ h=>⟨h.1,h.2.1.imp fun g' x=>⟨x.1,wreg_mono hS _ x.2⟩,h.2.2.imp fun g' x=>⟨x.1,gb (fun _ h=>ald_mono (lV hS) h) x.2⟩⟩) h
theorem wait_mono(hS:∀g,S g→S' g):∀g,nh P main ty Wg S g→nh P main ty Wg S' g:=fun _ h=>gb (fun _ h=>nf (fun _ h=>gb (fun _ h=>⟨h.1,h.2.1.imp fun g' x=>⟨x.1,lV hS _ x.2⟩,h.2.2.imp fun g' x=>⟨x.1,wcas_mono hS _ x.2⟩⟩) h) h) h
end
theorem e_ret{P:Program}{co:Bool}{E:Goroutine→World→Prop}{b:Frame}{a:Act}{k:List Item}{cs:List Frame}{W:World}{c:Code}(hE:Closed P co E)(hc:c=.ret)(h:E (G {b.at a (.code .ret::k) with mode:=.returning} cs) W):E (G (b.at a (.code c::k)) cs) W:=hc▸hE.cw rfl (fun _ _=>stepG_ret') h
theorem s_gtr{P:Program}{co:Bool}{E:Goroutine→World→Prop}{b:Frame}{a:Act}{k:List Item}{cs:List Frame}{W:World}{n:Nat}{l:List (Nat×Value)}{ops:Array Oper}{i d:Nat}{rest:List Nat}(hE:Closed P co E)(hk:b.kind≠.early){t yt:TypeId}{x y:Operand}{p q:Int}(hO:opk ops i=some (some d,.binOp .gtr t x y yt,none))(hS:Sls n a l)(hd:d<n)(hx:a.eval x=.int .i64 p)(hy:a.eval y=.int .i64 q)(h:Nxt E b k cs ops rest n d a l (.bool (decide (q<p))) W):E (G (b.at a (.inRegion ops (i::rest)::k)) cs) W:=
 gD hE hk hO hS hd _ (fun _ _ _=>j8 hx hy fun w=>rfl) h
noncomputable def vB:Code:=fN Tryz.f84
noncomputable def vL:Code:=lin (bin (sq2 (sq1 (sq2 (sq2 (sq2 vB))))))
theorem vB_is:vB=.seq (.region 0 (rgo (sq1 vB)) false) (.seq (.seq (.region 1 (rgo (sq1 (sq1 (sq2 vB)))) false) (.cond (.tmp 8) (cn1 (sq2 (sq1 (sq2 vB)))) .skip)) (.seq (.region 3 (rgo (sq1 (sq2 (sq2 vB)))) false) (.seq (.seq (.region 4 (rgo (sq1 (sq1 (sq2 (sq2 (sq2 vB)))))) false) (.block 0 (.loop vL))) (.seq (.region 11 (rgo (sq1 (sq2 (sq2 (sq2 (sq2 vB)))))) false) .ret)))):=by kernel_rfl
theorem vL_is:vL=.seq (.region 5 (rgo (sq1 vL)) false) (.seq (.cond (.tmp 13) .skip (.exit 0)) (sq2 (sq2 vL))):=by kernel_rfl
theorem und_sys:∃e,Tryz.prog.underlying 29=some (.slice e):=⟨_,Tryz.underlying29⟩
set_option maxRecDepth 100000 in
set_option maxHeartbeats 1000000 in
theorem ovalid_calls{co:Bool}(pz:Option Addr)(kz:Nat)(W:World):bP Tryz.prog co 84 #[.slice pz 0 kz] W fun e W'=>e=.returned (.bool true)∧Rv W W':=by
 intro E hE cs hc
 have hS0:Sls 61 {tmps:=#[.slice pz 0 kz]++Array.replicate 60 undef,defers:=[]} [(0,.slice pz 0 kz)]:=⟨by simp,fun t v e=>by
  simp only[av] at e
  split at e
  ·rename_i x;subst x;obtain rfl:=Oi e;kernel_rfl
  ·cases e⟩
 have he:Frame.enter Tryz.prog 84 #[.slice pz 0 kz] .normal=(base 84).at {tmps:=#[.slice pz 0 kz]++Array.replicate 60 undef,defers:=[]} [.code vB]:=by kernel_rfl
 rw[he]
 have hd0:({tmps:=#[.slice pz 0 kz]++Array.replicate 60 undef,defers:=[]} : Act).defers=[]:=rfl
 generalize ({tmps:=#[.slice pz 0 kz]++Array.replicate 60 undef,defers:=[]} : Act)=a0 at hS0 hd0 ⊢
 have hb:(base 84).kind≠.early:=by decide
 refine bU hE _ _ vB_is ?_
 refine aO hE _ _ 1 rfl (by kernel_rfl) ?_
 refine eO (d:=2) (x:=.const (.bool false)) hE hb (by kernel_rfl) hS0 (by decide) (.bool false) rfl fun a1 hS1 d1=>?_
 refine ao hE ?_
 refine bU hE _ _ rfl ?_
 refine bU hE _ _ rfl ?_
 refine aO hE _ _ 3 rfl (by kernel_rfl) ?_
 refine db (d:=6) (x:=.tmp 0) hE hb (by kernel_rfl) hS1 (by decide) (.slice pz 0 kz) (hS1.ev rfl) fun a2 hS2 d2=>?_
 refine s_len (d:=7) (t:=29) (x:=.tmp 6) hE hb (by kernel_rfl) hS2 (by decide) (hS2.ev rfl) und_sys fun a3 hS3 d3=>?_
 refine s_gtr (d:=8) (t:=3) (yt:=3) (x:=.tmp 7) (y:=.const (.int .i64 16)) hE hb (by kernel_rfl) hS3 (by decide) (hS3.ev rfl) rfl fun a4 hS4 d4=>?_
 refine ao hE ?_
 refine fW hE 8 _ _ rfl hS4 false rfl ?_
 refine ju hE rfl ?_
 refine bU hE _ _ rfl ?_
 refine aO hE _ _ 2 rfl (by kernel_rfl) ?_
 have hO:opk (rgo (sq1 (sq2 (sq2 vB)))) 0=some (some 9,.makeMap 227 none,none):=by kernel_rfl
 obtain⟨ty,pos,after,ho⟩:=dT hO
 refine e_mem hE hb ho rfl (ab (oC _) fun _=>trivial) fun W1 r1=>⟨.map (some W1.heap.size),W1.alloc (.map #[] 0),rfl,?_⟩
 have ra:Rv W (W1.alloc (.map #[] 0)):=r1.trans ⟨rfl,rfl,rfl,fun bb o' h=>by
  have hbb:bb<W1.heap.size:=(Array.getElem?_eq_some_iff.1 h).1
  show (W1.heap.push _)[bb]? = _
  rw[Array.getElem?_push,if_neg (by omega)];exact h⟩
 generalize W1.alloc (.map #[] 0)=W2 at ra ⊢
 have hS5:Sls 61 (a4.put (some 9) (.map (some W1.heap.size))) _:=hS4.put (t:=9) (by decide) (.map (some W1.heap.size))
 have d5:(a4.put (some 9) (.map (some W1.heap.size))).defers=a4.defers:=rfl
 show E (G ((base 84).at (a4.put (some 9) (.map (some W1.heap.size))) _) cs) W2
 generalize a4.put (some 9) (.map (some W1.heap.size))=a5 at hS5 d5 ⊢
 refine eO (d:=3) (x:=.tmp 9) hE hb (by kernel_rfl) hS5 (by decide) _ (hS5.ev rfl) fun a6 hS6 d6=>?_
 refine ao hE ?_
 refine bU hE _ _ rfl ?_
 refine bU hE _ _ rfl ?_
 refine aO hE _ _ 3 rfl (by kernel_rfl) ?_
 refine db (d:=10) (x:=.tmp 0) hE hb (by kernel_rfl) hS6 (by decide) (.slice pz 0 kz) (hS6.ev rfl) fun a7 hS7 d7=>?_
 refine s_len (d:=11) (t:=29) (x:=.tmp 10) hE hb (by kernel_rfl) hS7 (by decide) (hS7.ev rfl) und_sys fun a8 hS8 d8=>?_
 refine db (d:=12) (x:=.const (.int .i64 0)) hE hb (by kernel_rfl) hS8 (by decide) (.int .i64 0) rfl fun a9 hS9 d9=>?_
 refine ao hE ?_
 refine jv hE 0 _ rfl (s_loop hE _ rfl ?_)
 refine bU hE _ _ vL_is ?_
 refine aO hE _ _ 1 rfl (by kernel_rfl) ?_
 refine s_lss (d:=13) (t:=3) (yt:=3) (x:=.tmp 12) (y:=.tmp 11) hE hb (by kernel_rfl) hS9 (by decide) (hS9.ev rfl) (hS9.ev rfl) fun a10 hS10 d10=>?_
 refine ao hE ?_
 refine bU hE _ _ rfl ?_
 refine fW hE 13 _ _ rfl hS10 false rfl ?_
 refine s_exit hE 0 rfl _ rfl ?_
 refine bU hE _ _ rfl ?_
 refine aO hE _ _ 1 rfl (by kernel_rfl) ?_
 refine eO (d:=2) (x:=.const (.bool true)) hE hb (by kernel_rfl) hS10 (by decide) (.bool true) rfl fun a11 hS11 d11=>?_
 refine ao hE ?_
 refine e_ret hE rfl ?_
 have hr:Tryz.f84.results=#[.tmp 2]:=by kernel_rfl
 refine hc (.returned (.bool true)) W2 _ ⟨rfl,ra⟩ rfl ⟨rfl,?_,rfl,_,Tryz.func84,?_⟩
 ·exact d11.trans (d10.trans (d9.trans (d8.trans (d7.trans (d6.trans (d5.trans (d4.trans (d3.trans (d2.trans (d1.trans hd0))))))))))
 ·rw[results_tmp hr]
  have:=hS11.ev (t:=2) rfl
  exact congrArg (fun v=>Result.ok v W2) this
end Go.Proofs.YtgigkennhdolpaaGreatDoor
namespace Go.Proofs.YtgigkennhdolpaaGreatDoor
open Go.RowKit
def tS:Nat→List SV→List SV
 | 0,l=>l
 | k+1,l=>tS k (tlS l)
def aS(k:Nat)(x:SV):SV:=hdS (tS k x.al)
def patEns:SV:=.rs 2 0 fun _=>patE
structure Rope where
 a:Int
 b:Int
 len:Int
def Rope.cells(b:Rope):List SV:=[.v (.int .i64 b.a),.v (.int .i64 b.b),.v (.int .i64 b.len)]
def Rope.of(x:SV):Rope:=⟨(aS 0 x).iv,(aS 1 x).iv,(aS 2 x).iv⟩
def patcRope:List SV:=[.v (.int .i64 0),.v (.int .i64 0),.v (.int .i64 0)]
structure Rps where
 n:Nat
 e:Nat→Rope
def Rps.sv(l:Rps):SV:=.rs 3 l.n fun i=>(l.e i).cells
def Rps.of(x:SV):Rps:=⟨x.rn,fun i=>Rope.of (.agg (x.rf i))⟩
def patRps:SV:=.rs 3 0 fun _=>patcRope
def rdRps:Rd Rps:=⟨patRps,Rps.of,Rps.sv,fun _=>rfl⟩
structure Inp where
 client:Int
 seq:Int
 tick:Int
 moveX:Int
 moveY:Int
 fire:Bool
 aimX:Int
 aimY:Int
 seen:Int
 part:Int
def Inp.cells(b:Inp):List SV:=[.v (.int .i64 b.client),.v (.int .i64 b.seq),.v (.int .i64 b.tick),.v (.int .i64 b.moveX),.v (.int .i64 b.moveY),.v (.bool b.fire),.v (.int .i64 b.aimX),.v (.int .i64 b.aimY),.v (.int .i64 b.seen),.v (.int .i64 b.part)]
def Inp.sv(b:Inp):SV:=.agg b.cells
def Inp.of(x:SV):Inp:=⟨(aS 0 x).iv,(aS 1 x).iv,(aS 2 x).iv,(aS 3 x).iv,(aS 4 x).iv,(aS 5 x).bv,(aS 6 x).iv,(aS 7 x).iv,(aS 8 x).iv,(aS 9 x).iv⟩
def patcInp:List SV:=[.v (.int .i64 0),.v (.int .i64 0),.v (.int .i64 0),.v (.int .i64 0),.v (.int .i64 0),.v (.bool false),.v (.int .i64 0),.v (.int .i64 0),.v (.int .i64 0),.v (.int .i64 0)]
def rdInp:Rd Inp:=⟨.agg patcInp,Inp.of,Inp.sv,fun _=>rfl⟩
structure bw where
 n:Nat
 e:Nat→Inp
def bw.sv(l:bw):SV:=.rs 10 l.n fun i=>(l.e i).cells
def bw.of(x:SV):bw:=⟨x.rn,fun i=>Inp.of (.agg (x.rf i))⟩
def patInps:SV:=.rs 10 0 fun _=>patcInp
def iQ:Rd bw:=⟨patInps,bw.of,bw.sv,fun _=>rfl⟩
structure Sysm where
 name:SV
 reads:Int
 writes:Int
 prog:Int
def Sysm.cells(b:Sysm):List SV:=[b.name,.v (.int .u32 b.reads),.v (.int .u32 b.writes),.v (.int .i64 b.prog)]
def Sysm.of(x:SV):Sysm:=⟨(aS 0 x),(aS 1 x).iv,(aS 2 x).iv,(aS 3 x).iv⟩
def patcSysm:List SV:=[.e,.v (.int .u32 0),.v (.int .u32 0),.v (.int .i64 0)]
structure Syss where
 n:Nat
 e:Nat→Sysm
def Syss.sv(l:Syss):SV:=.rs 4 l.n fun i=>(l.e i).cells
def Syss.of(x:SV):Syss:=⟨x.rn,fun i=>Sysm.of (.agg (x.rf i))⟩
def patSyss:SV:=.rs 4 0 fun _=>patcSysm
def rdSyss:Rd Syss:=⟨patSyss,Syss.of,Syss.sv,fun _=>rfl⟩
structure Ins where
 op:Int
 a:Int
def Ins.cells(b:Ins):List SV:=[.v (.int .u8 b.op),.v (.int .i64 b.a)]
def Ins.of(x:SV):Ins:=⟨(aS 0 x).iv,(aS 1 x).iv⟩
def patcIns:List SV:=[.v (.int .u8 0),.v (.int .i64 0)]
structure Inss where
 n:Nat
 e:Nat→Ins
def Inss.sv(l:Inss):SV:=.rs 2 l.n fun i=>(l.e i).cells
def Inss.of(x:SV):Inss:=⟨x.rn,fun i=>Ins.of (.agg (x.rf i))⟩
def patInss:SV:=.rs 2 0 fun _=>patcIns
structure Prg where
 code:Inss
 locals:Int
 reads:Int
 writes:Int
def Prg.cells(b:Prg):List SV:=[b.code.sv,.v (.int .i64 b.locals),.v (.int .u32 b.reads),.v (.int .u32 b.writes)]
def Prg.of(x:SV):Prg:=⟨Inss.of (aS 0 x),(aS 1 x).iv,(aS 2 x).iv,(aS 3 x).iv⟩
def patcPrg:List SV:=[patInss,.v (.int .i64 0),.v (.int .u32 0),.v (.int .u32 0)]
structure Prgs where
 n:Nat
 e:Nat→Prg
def Prgs.sv(l:Prgs):SV:=.rs 4 l.n fun i=>(l.e i).cells
def Prgs.of(x:SV):Prgs:=⟨x.rn,fun i=>Prg.of (.agg (x.rf i))⟩
def patPrgs:SV:=.rs 4 0 fun _=>patcPrg
structure Stp where
 systems:Syss
 progs:Prgs
 seed:Int
 fuel:Int
def Stp.cells(b:Stp):List SV:=[b.systems.sv,b.progs.sv,.v (.int .u64 b.seed),.v (.int .i64 b.fuel)]
def Stp.sv(b:Stp):SV:=.agg b.cells
def Stp.of(x:SV):Stp:=⟨Syss.of (aS 0 x),Prgs.of (aS 1 x),(aS 2 x).iv,(aS 3 x).iv⟩
def patcStp:List SV:=[patSyss,patPrgs,.v (.int .u64 0),.v (.int .i64 0)]
def rdStp:Rd Stp:=⟨.agg patcStp,Stp.of,Stp.sv,fun _=>rfl⟩
structure Zon where
 areaLowX:Int
 areaLowY:Int
 areaHighX:Int
 areaHighY:Int
 wTick:Int
 wEntities:Ens
 setupSystems:Syss
 setupProgs:Prgs
 setupSeed:Int
 setupFuel:Int
 ropes:Rps
 gravityX:Int
 gravityY:Int
def Zon.cells(b:Zon):List SV:=[.v (.int .i64 b.areaLowX),.v (.int .i64 b.areaLowY),.v (.int .i64 b.areaHighX),.v (.int .i64 b.areaHighY),.v (.int .i64 b.wTick),b.wEntities.sv,b.setupSystems.sv,b.setupProgs.sv,.v (.int .u64 b.setupSeed),.v (.int .i64 b.setupFuel),b.ropes.sv,.v (.int .i64 b.gravityX),.v (.int .i64 b.gravityY)]
def Zon.sv(b:Zon):SV:=.agg b.cells
def Zon.of(x:SV):Zon:=⟨(aS 0 x).iv,(aS 1 x).iv,(aS 2 x).iv,(aS 3 x).iv,(aS 4 x).iv,Ens.of (aS 5 x),Syss.of (aS 6 x),Prgs.of (aS 7 x),(aS 8 x).iv,(aS 9 x).iv,Rps.of (aS 10 x),(aS 11 x).iv,(aS 12 x).iv⟩
def patcZon:List SV:=[.v (.int .i64 0),.v (.int .i64 0),.v (.int .i64 0),.v (.int .i64 0),.v (.int .i64 0),patEns,patSyss,patPrgs,.v (.int .u64 0),.v (.int .i64 0),patRps,.v (.int .i64 0),.v (.int .i64 0)]
def lJ:Rd Zon:=⟨.agg patcZon,Zon.of,Zon.sv,fun _=>rfl⟩
structure Stop where
 iD:Int
 along:Int
 byI:Int
def Stop.cells(b:Stop):List SV:=[.v (.int .i64 b.iD),.v (.int .u8 b.along),.v (.int .i64 b.byI)]
structure jm where
 n:Nat
 e:Nat→Stop
def jm.sv(l:jm):SV:=.rs 3 l.n fun i=>(l.e i).cells
def patB:List SV:=[.v (.int .i64 0),.v (.int .i64 0),.v (.int .i64 0),.v (.int .i64 0),.v (.int .i64 0),.v (.int .i64 0),.v (.int .i64 0),.v (.bool false),.v (.bool false)]
structure Bds where
 n:Nat
 e:Nat→Body
def Bds.sv(l:Bds):SV:=.rs 9 l.n fun i=>(l.e i).cells
def Bds.of(x:SV):Bds:=⟨x.rn,fun i=>Body.of (.agg (x.rf i))⟩
def patBds:SV:=.rs 9 0 fun _=>patB
def rdBds:Rd Bds:=⟨patBds,Bds.of,Bds.sv,fun _=>rfl⟩
structure Scn where
 bodies:Bds
 ropes:Rps
 gravityX:Int
 gravityY:Int
def Scn.cells(b:Scn):List SV:=[b.bodies.sv,b.ropes.sv,.v (.int .i64 b.gravityX),.v (.int .i64 b.gravityY)]
def Scn.sv(b:Scn):SV:=.agg b.cells
def Scn.of(x:SV):Scn:=⟨Bds.of (aS 0 x),Rps.of (aS 1 x),(aS 2 x).iv,(aS 3 x).iv⟩
def patcScn:List SV:=[patBds,patRps,.v (.int .i64 0),.v (.int .i64 0)]
def oz:Rd Scn:=⟨.agg patcScn,Scn.of,Scn.sv,fun _=>rfl⟩
structure Mov where
 sBodies:Bds
 sRopes:Rps
 sGravityX:Int
 sGravityY:Int
 bID:Int
 bPosX:Int
 bPosY:Int
 bVelX:Int
 bVelY:Int
 bW:Int
 bH:Int
 bRound:Bool
 bFixed:Bool
 axis:Int
 sign:Int
def Mov.cells(b:Mov):List SV:=[b.sBodies.sv,b.sRopes.sv,.v (.int .i64 b.sGravityX),.v (.int .i64 b.sGravityY),.v (.int .i64 b.bID),.v (.int .i64 b.bPosX),.v (.int .i64 b.bPosY),.v (.int .i64 b.bVelX),.v (.int .i64 b.bVelY),.v (.int .i64 b.bW),.v (.int .i64 b.bH),.v (.bool b.bRound),.v (.bool b.bFixed),.v (.int .i64 b.axis),.v (.int .i64 b.sign)]
def Mov.sv(b:Mov):SV:=.agg b.cells
def Mov.of(x:SV):Mov:=⟨Bds.of (aS 0 x),Rps.of (aS 1 x),(aS 2 x).iv,(aS 3 x).iv,(aS 4 x).iv,(aS 5 x).iv,(aS 6 x).iv,(aS 7 x).iv,(aS 8 x).iv,(aS 9 x).iv,(aS 10 x).iv,(aS 11 x).bv,(aS 12 x).bv,(aS 13 x).iv,(aS 14 x).iv⟩
def patcMov:List SV:=[patBds,patRps,.v (.int .i64 0),.v (.int .i64 0),.v (.int .i64 0),.v (.int .i64 0),.v (.int .i64 0),.v (.int .i64 0),.v (.int .i64 0),.v (.int .i64 0),.v (.int .i64 0),.v (.bool false),.v (.bool false),.v (.int .i64 0),.v (.int .i64 0)]
def rdMov:Rd Mov:=⟨.agg patcMov,Mov.of,Mov.sv,fun _=>rfl⟩
end Go.Proofs.YtgigkennhdolpaaGreatDoor
namespace Go.Proofs.YtgigkennhdolpaaGreatDoor
open Go.RowKit
section
variable {PP:Program}{C:Cx PP}{Γ:List (Con C)}{Fs:List (FnI C)}{d:Nat}
def ownOutX(out:SV)(t0:TypeId)(H:bd)(v:SV):Prop:=match out with
 | .agg [x,.rs szo no fo]=>match v with
  | .agg [x',v']=>flatS x=true∧x=x'∧ownOut2 szo no fo t0 H v'
  | _=>False
 | _=>False
def resOutX(out:SV)(t0:TypeId)(H:bd)(v:SV):Prop:=ai out H v∧ownOutX out t0 H v
theorem calls_fnX{f:FuncId}{fn:Func}{args:List SV}{vs:List Value}{ze:Nat→Nat→Value→Prop}{W:World}{out:SV}{t0:TypeId}(h:How)(hm:C.P.follows .mixedOrders=true)
  (hf:C.P.funcs[f]? = some fn) (hB:fp h.fl fn=true) (hG:C.Grd W) (hz:∀b i c,ze b i c→W.cell? ⟨b,i,none⟩=some c∧c.oneCell'=true) (hargs:aj (ba ze) args vs)
  (he:aX Γ Fs d h fn args fun v H _=>resOutX out t0 H v) :
  bP C.P C.co f vs.toArray W fun e W'=>∃val z',e=.returned val∧Gr W W'∧(∀b i c,z' b i c→(ze b i c∨W.heap.size≤b)∧W'.cell? ⟨b,i,none⟩=some c∧c.oneCell'=true)∧den (ba z') out val∧OwnO z' W W' val t0 out:=by
 unfold aX at he
 split at he
 rotate_left
 ·exact he.elim
 rename_i code hb hn
 have hB:fj h.fl code=true:=by unfold fp at hB;rw[hb] at hB;exact hB
 refine(fM h (dH hm d) hm hf hb hn hB (gU hG hz) (fun n b h=>by cases h) (fun e l h=>by cases h) (fun m i l h=>by cases h) hargs _ he).mono ?_
 rintro e W' ⟨v,val,H',nm',ρ',rfl,⟨hk,hko⟩,hmem,hblk,hden⟩
 obtain⟨h1,h2,h3⟩:=fn_endR hk hmem hblk hden
 refine⟨val,(zR ρ' W').z,rfl,h1,h2,h3,?_⟩
 unfold ownOutX at hko
 split at hko
 ·split at hko
  ·obtain⟨h1,rfl,h2⟩:=hko
   obtain⟨us,⟨u,w,rfl,d1,v,w2,rfl,d2,rfl⟩,rfl⟩:=hden
   exact⟨u,v,rfl,kB _ _ h1 d1,ownOut2_ok h2 hmem hblk d2⟩
  ·exact hko.elim
 ·exact hko.elim
def walkConX{α:Type}(f:FuncId)(en:∀(args:Array Value) (w:World),(callFunc f args).run C.P w=.ok (.enter f args) w)(R:Rds α)(pre:α→List Prop)(out:α→SV)(t0:TypeId)(h:α→How)(fl:List Nat)(hfl:∀a,(h a).fl=fl)(hm:C.P.follows .mixedOrders=true){fn:Func}
  (hf:C.P.funcs[f]? = some fn) (hB:fp fl fn=true) (he:∀a,aK (pre a)→aX Γ Fs d (h a) fn (R.enc a) fun v H _=>resOutX (out a) t0 H v):Con C where
 f:=f
 en:=en
 ns:=dG hf hB
 run:=fun args=>match eF R.ma args with|some l=>some (obO (l++pre (R.dec args)),out (R.dec args))|none=>none
 fresh:=false
 own:=some t0
 ok:=by
  intro ze W args vs ob o hG hz hd hr ho
  split at hr
  ·rename_i l hl
   obtain⟨rfl,rfl⟩:=Prod.mk.inj (Oi hr)
   obtain⟨c1,c2⟩:=bV (obO_ok ho)
   have hd':aj (ba ze) (R.enc (R.dec args)) vs:=by
    rw[R.ok]
    exact cg _ _ _ (eZ _ _ l hl c1) hd
   exact(calls_fnX (h (R.dec args)) hm hf (by rw[hfl];exact hB) hG hz hd' (he (R.dec args) c2)).mono fun e W' ⟨val,z',h1,h2,h3,h4,h5⟩=>⟨val,z',h1,h2,h3,h4,(fun c=>by cases c),fun t c=>by cases c;exact h5⟩
  ·cases hr
end
end Go.Proofs.YtgigkennhdolpaaGreatDoor
namespace Go.Proofs.YtgigkennhdolpaaGreatDoor
open Go.RowKit
def nilS:SV:=.v (.slice none 0 0)
theorem dQ{W W1:World}(h:Rv W W1):Gr W W1:=⟨h.os,h.tape,h.output,h.size,fun b hb=>h.same hb⟩
set_option maxRecDepth 100000 in
noncomputable def conOValid0:Con cx:=mkCon 84 Tryz.call84 (dG (fl:=[]) (fn:=Tryz.f84) Tryz.func84 (by kernel_rfl)) (bM rdSyss) (fun x=>[x.n=0]) (fun _=>.bl true) fun x ze W vs hp hG hz hd=>by
 obtain⟨n,e⟩:=x
 obtain rfl:n=0:=hp
 obtain⟨u,w,rfl,⟨ad,cap,rfl,-,-⟩,rfl⟩:=hd
 exact(ovalid_calls ad cap W).mono fun e W' ⟨h1,h2⟩=>⟨_,fun _ _ _=>False,h1,dQ h2,fun _ _ _ h=>h.elim,rfl⟩
structure Stp.None (x:Stp):Prop where
 s:x.systems.n=0
 p:x.progs.n=0
 f0:0≤x.fuel
 f1:x.fuel≤10000
set_option maxRecDepth 100000 in
theorem VSet_walk:∀x:Stp,aK ((fun x=>[x.None]) x)→aX (C:=cx) [conOValid0] [] 0 ⟨[1001],[],[],2⟩ Tryz.f48 ((bM rdStp).enc x) fun v H _=>ai ((fun _=>.bl true) x) H v:=by
 intro⟨⟨n,e⟩,⟨m,f⟩,s,b⟩ h
 replace h:Stp.None _:=h
 obtain⟨h1,h2,h3,h4⟩:=h
 obtain rfl:n=0:=h1
 obtain rfl:m=0:=h2
 replace h3:0≤b:=h3
 replace h4:b≤10000:=h4
 repeat' (first|(refine Ai ?_ ?_)|(intro hh;exact absurd (show decide ((0:Int)<0)=true from hh) (by decide))|(intro hh;exact absurd (Od (show decide (b<0)=true from hh)) (by omega))|(intro hh;exact absurd (Od (show decide (10000<b)=true from hh)) (by omega))|(intro _)|exact rfl)
 exact trivial
noncomputable def conWValid0:Con cx:=ah 48 Tryz.call48 (bM rdStp) _ _ (fun _=>⟨[1001],[],[],2⟩) [1001] (fun _=>rfl) follows Tryz.func48 (by kernel_rfl) VSet_walk
end Go.Proofs.YtgigkennhdolpaaGreatDoor
