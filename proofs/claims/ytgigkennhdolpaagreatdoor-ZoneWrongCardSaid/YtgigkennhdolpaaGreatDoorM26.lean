/- Company, 38: parts of a piece of code. -/
import Derived.Test.YtgigkennhdolpaaGreatDoorM25
import Derived.KernelRfl
import Derived.Test.YtgigkennhdolpaaGreatDoorM17
import Derived.Test.YtgigkennhdolpaaGreatDoorM16
import Derived.RangeFuncRecord
namespace Go.Proofs.YtgigkennhdolpaaGreatDoor
open Go.Conc Go.RowKit
def Ve:Code->Code|.seq x _=>x|c=>c
def U6:Code->Code|.seq _ y=>y|c=>c
def lin:Code->Code|.loop x=>x|c=>c
def bin:Code->Code|.block _ x=>x|c=>c
def cn1:Code->Code|.cond _ x _=>x|c=>c
def Wo:Code->Array Oper|.region _ ops _=>ops|_=>#[]
def eG(f:Func):Code:=f.body.getD .skip
def WN(ops:Array Oper)(i:Nat):Option (Option Tmp×Op×Option (Nat×Bool)):=(ops[i]?).map λo=>(o.dst,o.op,o.guard)
theorem eF{ops:Array Oper}{i:Nat}{d:Option Tmp}{op:Op}(h:WN ops i=some (d,op,none)):∃ty pos after,ops[i]? = some ⟨d,op,ty,pos,after,none⟩:=by
 unfold WN at h;cases ho:ops[i]? with
 | none=>rw[ho] at h;cases h
 | some o=>
  obtain⟨d',op',ty,pos,after,g⟩:=o;rw[ho] at h;injection h with h;injection h with h1 h2;injection h2 with h2 h3;subst h1 h2 h3;exact⟨ty,pos,after,rfl⟩
section
variable {P:Program}{co:Bool}{E:Goroutine->World->Prop}{b:Frame}{a:Act}{k:List Item}{cs:List Frame}{W:World}{c:Code}{n:Nat}{l:List (Nat×Value)}
theorem bU(hE:Closed P co E)(x y:Code)(hc:c=.seq x y)(h:E (G (b.at a (.code x::.code y::k)) cs) W):E (G (b.at a (.code c::k)) cs) W:=hc▸m4 hE h
theorem kl(hE:Closed P co E)(hc:c=.skip)(h:E (G (b.at a k) cs) W):E (G (b.at a (.code c::k)) cs) W:=hc▸Qp hE h
theorem km(hE:Closed P co E)(id:Nat)(x:Code)(hc:c=.block id x)(h:E (G (b.at a (.code x::.inBlock id::k)) cs) W):E (G (b.at a (.code c::k)) cs) W:=hc▸jj hE h
theorem vK(hE:Closed P co E)(x:Code)(hc:c=.loop x)(h:E (G (b.at a (.code x::.inLoop x::k)) cs) W):E (G (b.at a (.code c::k)) cs) W:=hc▸Js hE h
theorem s_exit(hE:Closed P co E)(id:Nat)(hc:c=.exit id)(k':List Item)(hx:exitTo id k=some k')(h:E (G (b.at a k') cs) W):E (G (b.at a (.code c::k)) cs) W:=hc▸Qr hE hx h
theorem s_cond(hE:Closed P co E)(t:Nat)(x y:Code)(hc:c=.cond (.tmp t) x y)(hS:Vy n a l)(v:Bool)(hv:look l t=some (.bool v))(h:E (G (b.at a (.code (if v then x else y)::k)) cs) W):E (G (b.at a (.code c::k)) cs) W:=hc▸Qs hE (hS.ev hv) h
theorem aQ(hE:Closed P co E)(ops:Array Oper)(id m:Nat)(hc:c=.region id ops false)(hm:ops.size=m)(h:E (G (b.at a (.inRegion ops (List.range m)::k)) cs) W):E (G (b.at a (.code c::k)) cs) W:=by subst hm;exact hc▸Jq hE h
variable {ops:Array Oper}{i d:Nat}{rest:List Nat}
def Z'(E:Goroutine->World->Prop)(b:Frame)(k:List Item)(cs:List Frame)(ops:Array Oper)(rest:List Nat)(n d:Nat)(a:Act)(l:List (Nat×Value))(v:Value)(W:World):Prop:=
 ∀a',Vy n a' ((d,v)::l)->a'.defers=a.defers->E (G (b.at a' (.inRegion ops rest::k)) cs) W
theorem gZ(hE:Closed P co E)(hk:b.kind≠.early){op:Op}(hO:WN ops i=some (some d,op,none))(hS:Vy n a l)(hd:d<n)(v:Value)(hr:∀ty pos after,mM P a ⟨some d,op,ty,pos,after,none⟩ W v)(h:Z' E b k cs ops rest n d a l v W):E (G (b.at a (.inRegion ops (i::rest)::k)) cs) W:=by obtain⟨ty,pos,after,ho⟩:=eF hO;exact SQ hE hk ho rfl (hr ty pos after) (h _ (hS.put hd v) rfl)
theorem dA(hE:Closed P co E)(hk:b.kind≠.early){x:Operand}(hO:WN ops i=some (some d,.move x,none))(hS:Vy n a l)(hd:d<n)(v:Value)(hv:a.eval x=v)(h:Z' E b k cs ops rest n d a l v W):E (G (b.at a (.inRegion ops (i::rest)::k)) cs) W:=
 gZ hE hk hO hS hd v (λ_ _ _=>jG hv) h
theorem fq(hE:Closed P co E)(hk:b.kind≠.early){x:Operand}(hO:WN ops i=some (some d,.assign x,none))(hS:Vy n a l)(hd:d<n)(v:Value)(hv:a.eval x=v)(h:Z' E b k cs ops rest n d a l v W):E (G (b.at a (.inRegion ops (i::rest)::k)) cs) W:=
 gZ hE hk hO hS hd v (λ_ _ _=>xP hv) h
theorem uD(hE:Closed P co E)(hk:b.kind≠.early){t yt:TypeId}{x y:Operand}{p q:Int}(hO:WN ops i=some (some d,.binOp .lss t x y yt,none))(hS:Vy n a l)(hd:d<n)(hx:a.eval x=.int .i64 p)(hy:a.eval y=.int .i64 q)(h:Z' E b k cs ops rest n d a l (.bool (decide (p<q))) W):E (G (b.at a (.inRegion ops (i::rest)::k)) cs) W:=
 gZ hE hk hO hS hd _ (λ_ _ _=>lC hx hy λw=>rfl) h
theorem Hl(hE:Closed P co E)(hk:b.kind≠.early){t yt:TypeId}{x y:Operand}{p q:Int}(hO:WN ops i=some (some d,.binOp .add t x y yt,none))(hS:Vy n a l)(hd:d<n)(hx:a.eval x=.int .i64 p)(hy:a.eval y=.int .i64 q)(h:Z' E b k cs ops rest n d a l (.int .i64 (IntKind.i64.wrap (p+q))) W):E (G (b.at a (.inRegion ops (i::rest)::k)) cs) W:=
 gZ hE hk hO hS hd _ (λ_ _ _=>lC hx hy λw=>rfl) h
theorem qI(hE:Closed P co E)(hk:b.kind≠.early){t:TypeId}{x:Operand}{dd:TypeDesc}{bb off:Nat}{c:Array Value}{e:TypeId}{fz:Nat×Nat}(hO:WN ops i=some (some d,.load t x,none))(hS:Vy n a l)(hd:d<n)(hx:a.eval x=.pointer (some ⟨bb,off,none⟩))(hu:P.underlying t=some dd)(h1:∀fs,dd≠.struct fs)(h2:∀n e,dd≠.array n e)(hb:W.heap[bb]? = some (.cells c e fz))(v:Value)(hv:c[off]? = some v)(h:Z' E b k cs ops rest n d a l v W):E (G (b.at a (.inRegion ops (i::rest)::k)) cs) W:=
 gZ hE hk hO hS hd v (λ_ _ _=>iO hx hu h1 h2 hb hv) h
theorem Lj(hE:Closed P co E)(hk:b.kind≠.early){s:TypeId}{x:Operand}{kk:Nat}{fs:Array Field}{f:Field}{inf:TypeInfo}{p:Addr}(hO:WN ops i=some (some d,.fieldAddr s x kk,none))(hS:Vy n a l)(hd:d<n)(hx:a.eval x=.pointer (some p))(hu:P.underlying s=some (.struct fs))(hf:fs[kk]? = some f)(hi:P.info? f.type=some inf)(hs:inf.size≠0)(h:Z' E b k cs ops rest n d a l (.pointer (some (p.add f.offset))) W):E (G (b.at a (.inRegion ops (i::rest)::k)) cs) W:=
 gZ hE hk hO hS hd _ (λ_ _ _=>ku hx hu hf hi hs) h
theorem oW(hE:Closed P co E)(hk:b.kind≠.early){x:Operand}{kk:Nat}{vs:Array Value}(hO:WN ops i=some (some d,.extract x kk,none))(hS:Vy n a l)(hd:d<n)(hx:a.eval x=.tuple vs)(v:Value)(hv:vs[kk]? = some v)(h:Z' E b k cs ops rest n d a l v W):E (G (b.at a (.inRegion ops (i::rest)::k)) cs) W:=
 gZ hE hk hO hS hd v (λ_ _ _=>kA hx hv) h
theorem Cr(hE:Closed P co E)(hk:b.kind≠.early){x:Operand}{t:TypeId}{p:Option Addr}{len cap:Nat}(hO:WN ops i=some (some d,.call ⟨.builtin .len,#[x],#[t]⟩,none))(hS:Vy n a l)(hd:d<n)(hx:a.eval x=.slice p len cap)(he:∃e,P.underlying t=some (.slice e))(h:Z' E b k cs ops rest n d a l (goInt len) W):E (G (b.at a (.inRegion ops (i::rest)::k)) cs) W:=
 gZ hE hk hO hS hd _ (λ_ _ _=>Hp rfl rfl rfl hx he) h
theorem AP(hE:Closed P co E)(hk:b.kind≠.early){fn:Fn}{first captured:Array Operand}(hO:WN ops i=some (some d,.makeFunc fn first captured,none))(hS:Vy n a l)(hd:d<n)(h:Z' E b k cs ops rest n d a l (.func fn (first.map a.eval) (captured.map a.eval)) W):E (G (b.at a (.inRegion ops (i::rest)::k)) cs) W:=
 gZ hE hk hO hS hd _ (λ_ _ _=>tV) h
end
section
variable {P:Program}{main:Bool}{ty:TypeId}{Wg:Nat}{S S':Goroutine->Prop}{g:Goroutine}
theorem uY{R:World->World->Prop}{D:World->World->Array Event->Prop}{S S':Goroutine->World->Prop}(hS:∀g w,S g w->S' g w):∀(n:Nat) (g:Goroutine) (w:World),Goes P main R D S n g w->Goes P main R D S' n g w
 | 0,_,_,h=>λw1 r=>hS _ _ (h w1 r)
 | n+1,g,w,h=>h.elim (λh=>.inl λw1 r=>hS _ _ (h w1 r)) λh=>.inr ⟨h.1,λw1 r=>by
   have:=h.2 w1 r;revert this;cases stepG P main g w1 with
   | go g' w' es=>exact λ⟨x,y⟩=>⟨x,uY hS n g' w' y⟩
   | _=>exact λh=>h.elim⟩
theorem gF(hS:∀g,S g->S' g)(h:Lq P main ty Wg S g):Lq P main ty Wg S' g:=h.imp λn h w hw=>uY (λg _=>hS g) n g w (h w hw)
theorem oH{m:Mark}(hS:∀g,S g->S' g)(h:XC P main m S g):XC P main m S' g:=⟨h.1,h.2.imp λg' h=>⟨h.1,hS _ h.2⟩⟩
theorem zY(hS:∀g,S g->S' g)(h:ALd P main ty Wg S g):ALd P main ty Wg S' g:=⟨h.1,h.2.imp λg' h=>⟨h.1,hS _ h.2⟩⟩
theorem FI(hS:∀g,S g->S' g)(h:B8 P main ty Wg S g):B8 P main ty Wg S' g:=⟨h.1,h.2.1,h.2.2.1,h.2.2.2.imp λg' h=>⟨h.1,hS _ h.2⟩⟩
theorem nc(hS:∀g,S g->S' g):∀g,jZ P main ty Wg S g->jZ P main ty Wg S' g:=λ_ h=>gF (λ_ h=>oH (λ_ h=>gF (λ_ h=>oH (λ_ h=>gF hS h) h) h) h) h
theorem Eg(hS:∀g,S g->S' g):∀g,NY P main ty Wg S g->NY P main ty Wg S' g:=λ_ h=>gF (λ_ h=>oH (λ_ h=>gF (λ_ h=>FI (λ_ h=>gF (λ_ h=>zY (nc hS) h) h) h) h) h) h
theorem El(hS:∀g,S g->S' g):∀g,Kv P main ty Wg S g->Kv P main ty Wg S' g:=λ_ h=>gF (λ_ h=>⟨h.1,h.2.1.imp λg' x=>⟨x.1,Eg hS _ x.2⟩,h.2.2.imp λg' x=>⟨x.1,gF (λ_ h=>zY (nc hS) h) x.2⟩⟩) h
theorem En(hS:∀g,S g->S' g):∀g,oI P main ty Wg S g->oI P main ty Wg S' g:=λ_ h=>gF (λ_ h=>oH (λ_ h=>gF (λ_ h=>⟨h.1,h.2.1.imp λg' x=>⟨x.1,nc hS _ x.2⟩,h.2.2.imp λg' x=>⟨x.1,El hS _ x.2⟩⟩) h) h) h
end
theorem Jp{P:Program}{co:Bool}{E:Goroutine->World->Prop}{b:Frame}{a:Act}{k:List Item}{cs:List Frame}{W:World}{c:Code}(hE:Closed P co E)(hc:c=.ret)(h:E (G {b.at a (.code .ret::k) with mode:=.returning} cs) W):E (G (b.at a (.code c::k)) cs) W:=hc▸hE.cg rfl (λ_ _=>stepG_ret') h
theorem Oh{P:Program}{co:Bool}{E:Goroutine->World->Prop}{b:Frame}{a:Act}{k:List Item}{cs:List Frame}{W:World}{n:Nat}{l:List (Nat×Value)}{ops:Array Oper}{i d:Nat}{rest:List Nat}(hE:Closed P co E)(hk:b.kind≠.early){t yt:TypeId}{x y:Operand}{p q:Int}(hO:WN ops i=some (some d,.binOp .gtr t x y yt,none))(hS:Vy n a l)(hd:d<n)(hx:a.eval x=.int .i64 p)(hy:a.eval y=.int .i64 q)(h:Z' E b k cs ops rest n d a l (.bool (decide (q<p))) W):E (G (b.at a (.inRegion ops (i::rest)::k)) cs) W:=
 gZ hE hk hO hS hd _ (λ_ _ _=>lC hx hy λw=>rfl) h
noncomputable def vB:Code:=eG Tryz.f84
noncomputable def vL:Code:=lin (bin (U6 (Ve (U6 (U6 (U6 vB))))))
theorem RA:vB=.seq (.region 0 (Wo (Ve vB)) false) (.seq (.seq (.region 1 (Wo (Ve (Ve (U6 vB)))) false) (.cond (.tmp 8) (cn1 (U6 (Ve (U6 vB)))) .skip)) (.seq (.region 3 (Wo (Ve (U6 (U6 vB)))) false) (.seq (.seq (.region 4 (Wo (Ve (Ve (U6 (U6 (U6 vB)))))) false) (.block 0 (.loop vL))) (.seq (.region 11 (Wo (Ve (U6 (U6 (U6 (U6 vB)))))) false) .ret)))):=by kernel_rfl
theorem Rz:vL=.seq (.region 5 (Wo (Ve vL)) false) (.seq (.cond (.tmp 13) .skip (.exit 0)) (U6 (U6 vL))):=by kernel_rfl
theorem Ck:∃e,Tryz.prog.underlying 29=some (.slice e):=⟨_,Tryz.underlying29⟩
set_option maxRecDepth 100000 in
set_option maxHeartbeats 1000000 in
theorem vW{co:Bool}(pz:Option Addr)(kz:Nat)(W:World):br Tryz.prog co 84 #[.slice pz 0 kz] W λe W'=>e=.returned (.bool true)∧Rv W W':=by
 intro E hE cs hc;have Yr:Vy 61 {tmps:=#[.slice pz 0 kz]++Array.replicate 60 undef,defers:=[]} [(0,.slice pz 0 kz)]:=⟨by simp,λt v e=>by
  simp only[au] at e;split at e;rename_i x;subst x;obtain rfl:=Oi e;kernel_rfl
  ·cases e⟩
 have he:Frame.enter Tryz.prog 84 #[.slice pz 0 kz] .normal=(base 84).at {tmps:=#[.slice pz 0 kz]++Array.replicate 60 undef,defers:=[]} [.code vB]:=by kernel_rfl
 rw[he];have Yh:({tmps:=#[.slice pz 0 kz]++Array.replicate 60 undef,defers:=[]} : Act).defers=[]:=rfl;generalize ({tmps:=#[.slice pz 0 kz]++Array.replicate 60 undef,defers:=[]} : Act)=a0 at Yr Yh ⊢;have hb:(base 84).kind≠.early:=by decide
 refine bU hE _ _ RA ?_;refine aQ hE _ _ 1 rfl (by kernel_rfl) ?_;refine fq (d:=2) (x:=.const (.bool false)) hE hb (by kernel_rfl) Yr (by decide) (.bool false) rfl λa1 V1 d1=>?_;refine ao hE ?_;refine bU hE _ _ rfl ?_;refine bU hE _ _ rfl ?_;refine aQ hE _ _ 3 rfl (by kernel_rfl) ?_;refine dA (d:=6) (x:=.tmp 0) hE hb (by kernel_rfl) V1 (by decide) (.slice pz 0 kz) (V1.ev rfl) λa2 Wt d2=>?_;refine Cr (d:=7) (t:=29) (x:=.tmp 6) hE hb (by kernel_rfl) Wt (by decide) (Wt.ev rfl) Ck λa3 XO d3=>?_;refine Oh (d:=8) (t:=3) (yt:=3) (x:=.tmp 7) (y:=.const (.int .i64 16)) hE hb (by kernel_rfl) XO (by decide) (XO.ev rfl) rfl λa4 YT d4=>?_;refine ao hE ?_;refine s_cond hE 8 _ _ rfl YT false rfl ?_;refine kl hE rfl ?_;refine bU hE _ _ rfl ?_;refine aQ hE _ _ 2 rfl (by kernel_rfl) ?_;have hO:WN (Wo (Ve (U6 (U6 vB)))) 0=some (some 9,.makeMap 227 none,none):=by kernel_rfl
 obtain⟨ty,pos,after,ho⟩:=eF hO;refine Dy hE hb ho rfl (aa (qe _) λ_=>trivial) λW1 r1=>⟨.map (some W1.heap.size),W1.alloc (.map #[] 0),rfl,?_⟩
 have ra:Rv W (W1.alloc (.map #[] 0)):=r1.trans ⟨rfl,rfl,rfl,λbb o' h=>by have hbb:bb<W1.heap.size:=(E'.1 h).1;show (W1.heap.push _)[bb]? = _;rw[Array.getElem?_push,Uv (by omega)];exact h⟩;generalize W1.alloc (.map #[] 0)=W2 at ra ⊢;have Xn:Vy 61 (a4.put (some 9) (.map (some W1.heap.size))) _:=YT.put (t:=9) (by decide) (.map (some W1.heap.size));have d5:(a4.put (some 9) (.map (some W1.heap.size))).defers=a4.defers:=rfl;show E (G ((base 84).at (a4.put (some 9) (.map (some W1.heap.size))) _) cs) W2;generalize a4.put (some 9) (.map (some W1.heap.size))=a5 at Xn d5 ⊢;refine fq (d:=3) (x:=.tmp 9) hE hb (by kernel_rfl) Xn (by decide) _ (Xn.ev rfl) λa6 Y6 d6=>?_;refine ao hE ?_;refine bU hE _ _ rfl ?_;refine bU hE _ _ rfl ?_;refine aQ hE _ _ 3 rfl (by kernel_rfl) ?_;refine dA (d:=10) (x:=.tmp 0) hE hb (by kernel_rfl) Y6 (by decide) (.slice pz 0 kz) (Y6.ev rfl) λa7 YB d7=>?_;refine Cr (d:=11) (t:=29) (x:=.tmp 10) hE hb (by kernel_rfl) YB (by decide) (YB.ev rfl) Ck λa8 hS8 d8=>?_;refine dA (d:=12) (x:=.const (.int .i64 0)) hE hb (by kernel_rfl) hS8 (by decide) (.int .i64 0) rfl λa9 hS9 d9=>?_;refine ao hE ?_;refine km hE 0 _ rfl (vK hE _ rfl ?_);refine bU hE _ _ Rz ?_;refine aQ hE _ _ 1 rfl (by kernel_rfl) ?_;refine uD (d:=13) (t:=3) (yt:=3) (x:=.tmp 12) (y:=.tmp 11) hE hb (by kernel_rfl) hS9 (by decide) (hS9.ev rfl) (hS9.ev rfl) λa10 Y7 d10=>?_;refine ao hE ?_;refine bU hE _ _ rfl ?_;refine s_cond hE 13 _ _ rfl Y7 false rfl ?_;refine s_exit hE 0 rfl _ rfl ?_;refine bU hE _ _ rfl ?_;refine aQ hE _ _ 1 rfl (by kernel_rfl) ?_;refine fq (d:=2) (x:=.const (.bool true)) hE hb (by kernel_rfl) Y7 (by decide) (.bool true) rfl λa11 ZB d11=>?_;refine ao hE ?_;refine Jp hE rfl ?_;have hr:Tryz.f84.results=#[.tmp 2]:=by kernel_rfl
 refine hc (.returned (.bool true)) W2 _ ⟨rfl,ra⟩ rfl ⟨rfl,?_,rfl,_,Tryz.func84,?_⟩;exact d11.trans (d10.trans (d9.trans (d8.trans (d7.trans (d6.trans (d5.trans (d4.trans (d3.trans (d2.trans (d1.trans Yh))))))))));rw[results_tmp hr];have:=ZB.ev (t:=2) rfl;exact Uo (λv=>Result.ok v W2) this
end Go.Proofs.YtgigkennhdolpaaGreatDoor
namespace Go.Proofs.YtgigkennhdolpaaGreatDoor
open Go.RowKit
section
variable {PP:Program}{C:Cx PP}{Γ:List (UO C)}{Fs:List (V3 C)}{d:Nat}
def CN(out:SV)(t0:TypeId)(H:aY)(v:SV):Prop:=match out with
 | .agg [x,.rs Zo no fo]=>match v with
  | .agg [x',v']=>sO x=true∧x=x'∧vV Zo no fo t0 H v'
  | _=>False
 | _=>False
def vO(out:SV)(t0:TypeId)(H:aY)(v:SV):Prop:=ae out H v∧CN out t0 H v
theorem Fy{f:FuncId}{fn:Func}{args:List SV}{vs:List Value}{ze:Nat->Nat->Value->Prop}{W:World}{out:SV}{t0:TypeId}(h:XA)(hm:C.P.follows .mixedOrders=true)
  (hf:C.P.funcs[f]? = some fn) (hB:fQ h.fl fn=true) (hG:C.WT W) (hz:∀b i c,ze b i c->W.cell? ⟨b,i,none⟩=some c∧c.oneCell'=true) (U7:aj (aD ze) args vs)
  (he:aM Γ Fs d h fn args λv H _=>vO out t0 H v) :
  br C.P C.co f vs.toArray W λe W'=>∃val z',e=.returned val∧Gr W W'∧(∀b i c,z' b i c->(ze b i c∨W.heap.size<=b)∧W'.cell? ⟨b,i,none⟩=some c∧c.oneCell'=true)∧den (aD z') out val∧KF z' W W' val t0 out:=by
 unfold aM at he;split at he
 rotate_left
 exact he.elim;rename_i code hb hn;have hB:du h.fl code=true:=by unfold fQ at hB;rw[hb] at hB;exact hB
 refine(gQ h (c6 hm d) hm hf hb hn hB (fL hG hz) (λn b h=>by cases h) (λe l h=>by cases h) (λm i l h=>by cases h) U7 _ he).mono ?_;rintro e W' ⟨v,val,H',Vv,UL,rfl,⟨hk,hko⟩,Vm,VP,VJ⟩;obtain⟨h1,h2,h3⟩:=ox hk Vm VP VJ;refine⟨val,(zR UL W').z,rfl,h1,h2,h3,?_⟩;unfold CN at hko;split at hko;split at hko;obtain⟨h1,rfl,h2⟩:=hko;obtain⟨us,⟨u,w,rfl,d1,v,w2,rfl,d2,rfl⟩,rfl⟩:=VJ;exact⟨u,v,rfl,lP _ _ h1 d1,AY h2 Vm VP d2⟩;exact hko.elim;exact hko.elim
def GZ{α:Type}(f:FuncId)(en:∀(args:Array Value) (w:World),(callFunc f args).run C.P w=.ok (.enter f args) w)(R:ZU α)(pre:α->List Prop)(out:α->SV)(t0:TypeId)(h:α->XA)(fl:List Nat)(Yq:∀a,(h a).fl=fl)(hm:C.P.follows .mixedOrders=true){fn:Func}
  (hf:C.P.funcs[f]? = some fn) (hB:fQ fl fn=true) (he:∀a,aH (pre a)->aM Γ Fs d (h a) fn (R.enc a) λv H _=>vO (out a) t0 H v):UO C where
 f:=f
 en:=en
 ns:=cZ hf hB
 run:=λargs=>match fg R.nA args with|some l=>some (obO (l++pre (R.dec args)),out (R.dec args))|none=>none
 fresh:=false
 own:=some t0
 ok:=by
  intro ze W args vs ob o hG hz hd hr ho;split at hr
  ·rename_i l hl;obtain⟨rfl,rfl⟩:=P' (Oi hr);obtain⟨c1,c2⟩:=bV (vZ ho);have XJ:aj (aD ze) (R.enc (R.dec args)) vs:=(by rw[R.ok];exact cI _ _ _ (fK _ _ l hl c1) hd);exact(Fy (h (R.dec args)) hm hf (by rw[Yq];exact hB) hG hz XJ (he (R.dec args) c2)).mono λe W' ⟨val,z',h1,h2,h3,h4,h5⟩=>⟨val,z',h1,h2,h3,h4,(λc=>by cases c),λt c=>by cases c;exact h5⟩
  cases hr
end
def yk:SV:=.v (.slice none 0 0)
theorem cQ{W W1:World}(h:Rv W W1):Gr W W1:=⟨h.os,h.tape,h.output,h.size,λb hb=>h.same hb⟩
set_option maxRecDepth 100000 in
noncomputable def By:UO cx:=qf 84 Tryz.call84 (cZ (fl:=[]) (fn:=Tryz.f84) Tryz.func84 (by kernel_rfl)) (bh nw) (λx=>[x.n=0]) (λ_=>.bl true) λx ze W vs hp hG hz hd=>by obtain⟨n,e⟩:=x;obtain rfl:n=0:=hp;obtain⟨u,w,rfl,⟨ad,cap,rfl,-,-⟩,rfl⟩:=hd;exact(vW ad cap W).mono λe W' ⟨h1,h2⟩=>⟨_,λ_ _ _=>False,h1,cQ h2,λ_ _ _ h=>h.elim,rfl⟩
structure Xi.uk (x:Xi):Prop where
 s:x.systems.n=0
 p:x.progs.n=0
 f0:0<=x.fuel
 f1:x.fuel<=10000
set_option maxRecDepth 100000 in
theorem FN:∀x:Xi,aH ((λx=>[x.uk]) x)->aM (C:=cx) [By] [] 0 ⟨[1001],[],[],2⟩ Tryz.f48 ((bh mW).enc x) λv H _=>ae ((λ_=>.bl true) x) H v:=by
 intro⟨⟨n,e⟩,⟨m,f⟩,s,b⟩ h;replace h:Xi.uk _:=h;obtain⟨h1,h2,h3,h4⟩:=h;obtain rfl:n=0:=h1;obtain rfl:m=0:=h2;replace h3:0<=b:=h3;replace h4:b<=10000:=h4;repeat' (first|refine Ai ?_ ?_|(intro hh;exact Up (show decide ((0:Int)<0)=true from hh) (by decide))|(intro hh;exact Up (Od (show decide (b<0)=true from hh)) (by omega))|(intro hh;exact Up (Od (show decide (10000<b)=true from hh)) (by omega))|(intro _)|exact rfl)
 exact trivial
noncomputable def tx:UO cx:=ai 48 Tryz.call48 (bh mW) _ _ (λ_=>⟨[1001],[],[],2⟩) [1001] (λ_=>rfl) follows Tryz.func48 (by kernel_rfl) FN
end Go.Proofs.YtgigkennhdolpaaGreatDoor
namespace Go.Proofs.YtgigkennhdolpaaGreatDoor
open Go.Conc Go.RowKit
section
variable {PP:Program}{C:Cx PP}{Γ:List (UO C)}{nt nm0:Nat}{I:Ya}{inls:List Nat}{h:XA}{w0:World}{UM:Names}{E:Goroutine->World->Prop}{b:Frame}{cs:List Frame}{k:List Item}
theorem vS(hE:Closed C.P C.co E)(hI:eu C I)(hm:C.P.follows .mixedOrders=true)(Vf:∀n b,UM.n n=some b->n<nm0)(US:∀e l,UM.v e=some l->e<nm0∧l.o<nm0)(UT:∀m i l,UM.k m i=some l->m<nm0)(hb:b.kind≠.early)(hr:b.roundOf=none){c x y y':Code}(hc:c=.seq x y'){st:St}{K:Ex->St->Prop}(Yi:cutAt h.cuts y=false)(hB:du h.fl x=true)(he:ev Γ nt nm0 I inls h (.seq x y) st K)(hK:∀e st,K e st->e=.normal)
  {ρ:Names} {a:Act} {W:World} (hR:Rp C nt w0 UM st ρ a W) (next:∀UZ UL a' W',ev Γ nt nm0 I inls h y UZ K->Rp C nt w0 UM UZ UL a' W'->E (G (b.at a' (.code y'::k)) cs) W'):E (G (b.at a (.code c::k)) cs) W:=by
 subst hc;refine m4 hE ?_;simp only[ev,Yi] at he;refine(zh hI hm Vf US UT x st _ hB he ρ a W hR) E hE b (.code y'::k) cs hb hr λe a' W' ⟨x',UZ,UL,ZN,ZP,hR'⟩=>?_;cases x' with
 | normal=>subst ZN;exact⟨trivial,next UZ UL a' W' ZP hR'⟩
 | exit i=>exact Up (hK _ _ ZP) (by simp)
 | ret=>exact Up (hK _ _ ZP) (by simp)
theorem PZ(hE:Closed C.P C.co E)(hI:eu C I)(hm:C.P.follows .mixedOrders=true)(Vf:∀n b,UM.n n=some b->n<nm0)(US:∀e l,UM.v e=some l->e<nm0∧l.o<nm0)(UT:∀m i l,UM.k m i=some l->m<nm0)(hb:b.kind≠.early)(hr:b.roundOf=none){c x y':Code}(hc:c=.seq x y'){st:St}{K:Ex->St->Prop}(hB:du h.fl x=true)(he:ev Γ nt nm0 I inls h x st K)(hK:∀e st,K e st->e=.normal)
  {ρ:Names} {a:Act} {W:World} (hR:Rp C nt w0 UM st ρ a W) (next:∀UZ UL a' W',K .normal UZ->Rp C nt w0 UM UZ UL a' W'->E (G (b.at a' (.code y'::k)) cs) W'):E (G (b.at a (.code c::k)) cs) W:=by
 subst hc;refine m4 hE ?_;refine(zh hI hm Vf US UT x st _ hB he ρ a W hR) E hE b (.code y'::k) cs hb hr λe a' W' ⟨x',UZ,UL,ZN,ZP,hR'⟩=>?_;obtain rfl:=hK _ _ ZP;subst ZN;exact⟨trivial,next UZ UL a' W' ZP hR'⟩
theorem Ht{st:St}{ρ:Names}{a a':Act}{W W':World}(hR:Rp C nt w0 UM st ρ a W)(r:Rv W W')(hs:a'.tmps.size=nt)(hd:a'.defers=UM.d){Xj:List (Nat×Slot)}{H':aY}{Vv:Nat}(X8:Vv=st.nm)(hH:∀n sb,look H' n=some sb->look st.H n=some sb)(X7:∀t s,look Xj t=some s->s.rg=0∧∃x,den ρ s.v x∧a'.tmps[t]? = some x):Rp C nt w0 UM ⟨Xj,H',Vv,0,[],[]⟩ ρ a' W':=by subst X8;exact⟨⟨hR.base.mem.gr (cQ r),λn sb hn=>(hR.base.Vg.gr (cQ r)).blk n sb (hH n sb hn),hs,hd⟩,λt s U4=>by rw[(X7 t s U4).1];exact I' 0,λt s U4 _=>(X7 t s U4).2⟩
theorem Rp.later{st:St}{ρ:Names}{a:Act}{W W':World}(hR:Rp C nt w0 UM st ρ a W)(r:Rv W W'):Rp C nt w0 UM st ρ a W':=⟨⟨hR.base.mem.gr (cQ r),λn sb hn=>(hR.base.Vg.gr (cQ r)).blk n sb hn,hR.base.sz,hR.base.df⟩,hR.rgs,hR.cA⟩
theorem xS{n:Nat}{args:List SV}{vs:List Value}{ze:Nat->Nat->Value->Prop}{W:World}(hn:args.length<=n)(hG:C.WT W)(hz:∀b i c,ze b i c->W.cell? ⟨b,i,none⟩=some c∧c.oneCell'=true)(U7:aj (aD ze) args vs):Rp C n W (aD ze).VE ⟨bL 0 args,[],0,0,[],[]⟩ (aD ze) {tmps:=vs.toArray++Array.replicate (n-vs.toArray.size) undef,defers:=[]} W:=by have hlen:=aB U7;have hH:=fL hG hz;refine⟨⟨Mem.refl hH.hb (λn b h=>by cases h) (λe l h=>by cases h) (λm i l h=>by cases h),hH.blk,by simp;omega,rfl⟩,λt s hs=>?_,λt s hs hg=>?_⟩;obtain⟨i,v,-,-,rfl⟩:=eC hs;exact I' _;obtain⟨i,v,rfl,hv,rfl⟩:=eC hs;obtain⟨u,h1,h2⟩:=ef U7 hv;refine⟨u,h2,?_⟩;have hl:i<vs.length:=(J'.1 h1).1;rw[B',Array.getElem?_append_left (by simpa using hl)];simpa using h1
end
section
variable {P:Program}{co:Bool}{E:Goroutine->World->Prop}{b:Frame}{a:Act}{k:List Item}{cs:List Frame}{W:World}
theorem kH(r:Nat)(l:Loop):NS P (setObj r (.loop l)):=⟨trivial,trivial⟩
theorem kI(l:Nat):NS P (Instr.getLoop l):=by unfold Instr.getLoop;refine aa (dM l) λo=>?_;cases o<;>trivial
theorem oh(fn:FuncId)(tmps:Array Value)(ps:Array Tmp)(VB body:Code):NS P (Instr.enterLoop fn tmps ps VB body none):=by unfold Instr.enterLoop;exact⟨trivial,λ_=>⟨trivial,λ_=>trivial⟩⟩
theorem sd(l:Nat):NS P (Instr.endLoop l):=by unfold Instr.endLoop;refine aa (kI l) λr=>?_;exact bj (aa (bc _) λ_=>aa (kH _ _) λ_=>trivial) (aa (kH _ _) λ_=>trivial)
theorem qA(l:Nat):NS P (Instr.takeDeferred l):=by unfold Instr.takeDeferred;refine aa (dM l) λo=>?_;split;exact⟨trivial,trivial⟩;trivial
theorem Jj{S R:Nat->Prop}{n m:Nat}{e:Event}(h:EvS S R n e)(hn:n<=m):EvS S R m e:=by unfold EvS at *;split at h;exact⟨h.1,by omega,h.2.2⟩;exact⟨h.1,by omega,h.2.2⟩;exact h;exact h
theorem lH{S R:Nat->Prop}{m:Nat}{e:Event}{es:Array Event}{fn:FuncId}(h:∀e∈es,e∈(#[]:Array Event)∨EvS S R m e)(he:e∈seen P fn es):EvS S R m e:=by rcases h e (mem_seen he) with q|q;simp at q;exact q
theorem Fc(hE:Closed P co E){D:Nat}{ds:List Deferred}{todo:List Item}(hd:a.defers = {target:=.collected D,args:=#[]}::ds)(hD:W.heap[D]? = some (.deferred (some [])))
  (h:∀W1,Rv W W1->E (G {b.at ⟨a.tmps,ds⟩ todo with mode:=.returning} cs) (W1.putObj D (.deferred none))):E (G {b.at a todo with mode:=.returning} cs) W:=by
 refine hE.step rfl λW1 r1=>⟨_,_,λmain S R w hv=>?_,h W1 r1⟩
 obtain⟨u,k1,k2,kk,k3⟩:=b7 #[] (qA D) hv (run_takeDeferred (P:=P) (r1.heap _ _ hD));refine⟨u,_,?_,k2,kk,λe he=>lH (P:=P) (fn:=b.fn) k3 he⟩;simp[G,stepG,unwind,Frame.at,hd,k1,GStep.after]
theorem Jr(hE:Closed P co E)(hk:b.kind≠.early)(VX:b.roundOf=none){g:Operand}{ps:Array Tmp}{VB body:Code}{gf:Nat}{lb:Array Value}(hg:a.eval g=.func (.func gf) #[] lb)(eg:∀args w,(callFunc gf args).run P w=.ok (.enter gf args) w)(ns:∀args,NS P (callFunc gf args)){X:Nat->Nat->World->World->Prop}
  (hit:∀D l W2,Gr W W2->W.heap.size<=D->D<l->l<W2.heap.size->br P co gf (#[.func (.yield l) #[] #[]]++lb) W2 λe W'=>(∃v,e=.returned v)∧W'.heap[D]? = W2.heap[D]?∧W'.heap[l]? = W2.heap[l]?∧X D l W2 W')
  (hK:∀D l W2 W3 W4 o,Gr W W2->W.heap.size<=D->D<l->l<W2.heap.size->X D l W2 W3->Rv W3 W4->W4.heap[D]? = some (.deferred (some []))->W4.heap[l]? = some (.loop o)->E (G (b.at ⟨a.tmps,{target:=.collected D,args:=#[]}::a.defers⟩ k) cs) (W4.putObj l (.loop {o with state:=.exhausted}))) :
  E (G (b.at a (.code (.rangeFunc g ps VB body)::k)) cs) W:=by
 refine hE.step rfl λW1 r1=>?_;obtain⟨rec,VW⟩:∃rec:LoopState->Loop,rec=λs=>{state:=s,pending:=none,fn:=b.fn,tmps:=a.tmps,params:=ps,assign:=VB,body,defers:=W1.heap.size}:=⟨_,rfl⟩
 obtain⟨W2,hW2⟩:∃W2,(W1.alloc (.deferred (some []))).alloc (.loop (rec .ready))=W2:=⟨_,rfl⟩
 have hg12:Gr W1 W2:=by rw[<-hW2];exact((Gr.refl W1).alloc _).alloc _
 have hL2:W2.heap[W1.heap.size+1]? = some (.loop (rec .ready)):=by rw[<-hW2];have:=World.alloc_heap_new (W1.alloc (.deferred (some []))) (.loop (rec .ready));rwa [World.size_alloc] at this
 have hD2:W2.heap[W1.heap.size]? = some (.deferred (some [])):=by rw[<-hW2];exact(Below.heap_alloc _ _ _ (by simp)).trans (World.alloc_heap_new W1 _)
 have UY:W1.heap.size+1<W2.heap.size:=(E'.1 hL2).1;have e1:(Instr.enterLoop b.fn a.tmps ps VB body none).run P W1=.ok (W1.heap.size+1,[{target:=.collected W1.heap.size,args:=#[]}]) W2:=by rw[<-hW2,VW];exact run_enterLoop_outer _ _ _ _ _
 have YM:=r1.size;have g02:Gr W W2:=(cQ r1).trans hg12;let a':Act:=⟨a.tmps,{target:=.collected W1.heap.size,args:=#[]}::a.defers⟩
 refine⟨G (Frame.enter P gf (#[.func (.yield (W1.heap.size+1)) #[] #[]]++lb) .normal) (b.at a' (.inRangeFunc (W1.heap.size+1)::k)::cs),W2,λmain S R w hv=>?_,?_⟩;obtain⟨u,k1,k2,kk,k3⟩:=b7 #[] (oh _ _ _ _ _) hv e1;obtain⟨u2,k4,k5,kk2,k6⟩:=b7 #[] (ns (#[.func (.yield (W1.heap.size+1)) #[] #[]]++lb)) k2 (eg _ W2);have WJ:(b.kind==CallKind.early)=false:=(by simpa using hk);refine⟨u2,seen P b.fn ((Instr.enterLoop b.fn a.tmps ps VB body none).events P w #[])++seen P b.fn ((callFunc gf (#[.func (.yield (W1.heap.size+1)) #[] #[]]++lb)).events P u #[]),?_,k5,kk.trans kk2,λe he=>?_⟩;have YY:∀(f:Frame),f.tmps=a.tmps->(do let d <-resolve f.eval {callee:=.value g,args:=#[.const (.func (.yield (W1.heap.size+1)) #[] #[])],argTypes:=#[]} 0;invoke d.target d.args)=callFunc gf (#[.func (.yield (W1.heap.size+1)) #[] #[]]++lb):=λf hf=>(by have XI:f.eval g=.func (.func gf) #[] lb:=(by rw[<-hg];cases g<;>simp[Frame.eval,Act.eval,hf]);have hc:∀v,f.eval (.const v)=v:=λ_=>rfl;simp only[resolve,XI,Deferred.ofValue,List.map_toArray,List.map_cons,List.map_nil,hc];simp[invoke]);have happ:∀(fr:Frame) (s:Sem Next),fr.fn=b.fn->fr.kind=b.kind->fr.todo=.inRangeFunc (W1.heap.size+1)::k->s=callFunc gf (#[.func (.yield (W1.heap.size+1)) #[] #[]]++lb)->stepG.apply P true fr cs none s u=.go {frame:=Frame.enter P gf (#[.func (.yield (W1.heap.size+1)) #[] #[]]++lb) .normal,callers:=fr::cs,status:=.running,dying:=none} u2 (seen P b.fn ((callFunc gf (#[.func (.yield (W1.heap.size+1)) #[] #[]]++lb)).events P u #[])):=λfr s f1 f2 f3 f4=>(by subst f4;simp[stepG.apply,k4,f1,f2,f3,WJ,GStep.after]);simp only[G,stepG,stepG.exec,Frame.at,VX];simp[k1];have hx:=happ {fn:=b.fn,tmps:=a.tmps,todo:=.inRangeFunc (W1.heap.size+1)::k,defers:={target:=.collected W1.heap.size,args:=#[]}::a.defers,mode:=.run,kind:=b.kind} _ rfl rfl rfl (YY {fn:=b.fn,tmps:=a.tmps,todo:=.inRangeFunc (W1.heap.size+1)::k,defers:={target:=.collected W1.heap.size,args:=#[]}::a.defers,mode:=.run,kind:=b.kind} rfl);refine(Uo (GStep.after _) hx).trans ?_;simp[GStep.after,a'];rcases Array.mem_append.1 he with he|he;exact Jj (lH (P:=P) k3 he) kk2.size;exact lH (P:=P) k6 he;refine hit W1.heap.size (W1.heap.size+1) W2 g02 YM (by omega) UY E hE _ λe W3 fr hR Z5 hl=>?_;obtain⟨⟨v,rfl⟩,hD,hL,hX⟩:=hR;obtain⟨l1,l2,l3,fn,l4,l5⟩:=hl;have hL3:=hL.trans hL2;have hD3:=hD.trans hD2;refine hE.step rfl λW4 r4=>⟨G (b.at a' (.endRangeFunc (W1.heap.size+1)::k)) cs,W4,λmain S R w hv=>?_,?_⟩
 have e1:=oq r4 hv (cY fn fr.tmps) l5;obtain⟨u,k1,k2,kk,k3⟩:=b7 #[] (cY fn fr.tmps).ns hv e1;refine⟨u,seen P fr.fn ((results fn fr.tmps).events P w #[]),?_,k2,kk,λe he=>lH (P:=P) k3 he⟩;obtain⟨ffn,ZR,ZQ,XU,ZS,ZT,YD⟩:=fr;simp only at l1 l2 l3 l4 k1;subst l1 l2 l3;simp[G,stepG,unwind,doReturn,l4,k1,GStep.after,Frame.finish,Frame.at];refine hE.step rfl λW5 r5=>⟨G (b.at a' k) cs,W5.putObj (W1.heap.size+1) (.loop {rec .ready with state:=.exhausted}),λmain S R w hv=>?_,?_⟩
 ·have hL5:=(r5.heap _ _ (r4.heap _ _ hL3))
  have e5:=run_endLoop (P:=P) hL5 (by rw[VW];simp);have hp:(rec .ready).pending=none:=(by rw[VW]);obtain⟨u,k1,k2,kk,k3⟩:=b7 #[] (sd (W1.heap.size+1)) hv e5;refine⟨u,seen P b.fn ((Instr.endLoop (W1.heap.size+1)).events P w #[]),?_,k2,kk,λe he=>lH (P:=P) k3 he⟩;simp[G,stepG,stepG.exec,Frame.at,k1,hp,GStep.after,a']
 exact hK _ _ W2 W3 W5 _ g02 YM (by omega) UY hX (r4.trans r5) (r5.heap _ _ (r4.heap _ _ hD3)) (r5.heap _ _ (r4.heap _ _ hL3))
end
end Go.Proofs.YtgigkennhdolpaaGreatDoor
