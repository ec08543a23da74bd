/- Company, 39: workers.Parallel, told by hand: the starter from behind Add to Wait. -/
import Derived.Test.YtgigkennhdolpaaGreatDoorM29
import Derived.Test.YtgigkennhdolpaaGreatDoorM38
import Derived.Test.YtgigkennhdolpaaGreatDoorM39
import Derived.Test.YtgigkennhdolpaaGreatDoorM40
import Derived.Test.YtgigkennhdolpaaGreatDoorM11
import Derived.Test.YtgigkennhdolpaaGreatDoorM18
import Derived.Conc.TokenWalk
namespace Go.Proofs.YtgigkennhdolpaaGreatDoor
open Go.Conc Go.RowKit
open Go.Conc.Lib Go.ConcR.Gen Go.ConcN.Gen
open Go.ConcR (KK wgBlock WgAt stA smA rd wr mk DC0)
theorem Sls.drop{n d:Nat}{a:Act}{l:List (Nat×Value)}{v:Value}(h:Sls n a ((d,v)::l))(hd:look l d=none):Sls n a l:=h.sub fun t u e=>by
 rw[av]
 by_cases x:d=t
 ·subst x;rw[hd] at e;cases e
 ·rw[if_neg x];exact e
noncomputable def pB:Code:=fN Tryz.f79
noncomputable def p1:Code:=sq2 pB
noncomputable def p3:Code:=sq2 p1
noncomputable def p4:Code:=sq2 p3
noncomputable def p5:Code:=sq2 p4
noncomputable def p6:Code:=sq2 p5
noncomputable def p7:Code:=sq2 p6
noncomputable def p12:Code:=sq2 p7
noncomputable def p17:Code:=sq2 p12
noncomputable def p18:Code:=sq2 p17
noncomputable def p19:Code:=sq2 p18
noncomputable def pX1:Code:=lin (bin (sq2 (sq1 p7)))
noncomputable def pX2:Code:=lin (bin (sq2 (sq1 p12)))
noncomputable def o9:Array Oper:=rgo (sq1 (bin (sq1 (sq2 (sq2 pX1)))))
noncomputable def o10:Array Oper:=rgo (sq2 (bin (sq1 (sq2 (sq2 pX1)))))
noncomputable def o11:Array Oper:=rgo (sq2 (sq2 (sq2 pX1)))
noncomputable def o15:Array Oper:=rgo (sq2 (bin (sq1 (sq2 (sq2 pX2)))))
noncomputable def o17:Array Oper:=rgo (sq1 p17)
noncomputable def o18:Array Oper:=rgo (sq1 p18)
theorem p7_is:p7=.seq (.seq (.region 7 (rgo (sq1 (sq1 p7))) false) (.block 0 (.loop pX1))) p12:=by kernel_rfl
theorem p12_is:p12=.seq (.seq (.region 12 (rgo (sq1 (sq1 p12))) false) (.block 2 (.loop pX2))) p17:=by kernel_rfl
theorem p17_is:p17=.seq (.region 17 o17 false) p18:=by kernel_rfl
theorem p18_is:p18=.seq (.region 18 o18 false) p19:=by kernel_rfl
theorem pX1_is:pX1=.seq (.region 8 (rgo (sq1 pX1)) false) (.seq (.cond (.tmp 41) .skip (.exit 0)) (.seq (.block 1 (.seq (.region 9 o9 false) (.region 10 o10 false))) (.region 11 o11 false))):=by kernel_rfl
theorem pX2_is:pX2=.seq (.region 13 (rgo (sq1 pX2)) false) (.seq (.cond (.tmp 49) .skip (.exit 2)) (.seq (.block 3 (.seq (.region 14 (rgo (sq1 (bin (sq1 (sq2 (sq2 pX2)))))) false) (.region 15 o15 false))) (.region 16 (rgo (sq2 (sq2 (sq2 pX2)))) false))):=by kernel_rfl
def ptr(b:Nat):Value:=.pointer (some ⟨b,0,none⟩)
def cX(i:Nat):Value:=.int .i64 i
theorem wrap_ok{i:Nat}(h:i<9223372036854775807):IntKind.i64.wrap ((i:Int)+1)=((i+1:Nat):Int):=by
 have h1:InR ((i:Int)+1):=by unfold InR;omega
 rw[h1.wrap];omega
section
variable {c Wg b11 N:Nat}{fz:Nat×Nat}{b:Frame}{k:List Item}{cs:List Frame}{l:List (Nat×Value)}{Cl:Goroutine→World→Prop}
theorem kR:Tryz.prog.underlying 190=some (.chan .both 3):=by kernel_rfl
def sends(i N:Nat):List Value:=(List.range' i (N-i)).map cX
theorem sends_nil(N:Nat):sends N N=[]:=by simp[sends]
theorem sends_cons{i N:Nat}(h:i<N):sends i N=cX i::sends (i+1) N:=by
 unfold sends
 rw[show N-i=(N-(i+1))+1 by omega,List.range'_succ]
 rfl
structure LowT (l:List (Nat×Value)) (b11 Wg:Nat):Prop where
 free:∀t,38≤t∨t=13→look l t=none
 work:look l 11=some (ptr b11)
 all:look l 12=some (ptr Wg)
theorem ny{b:Frame}{a:Act}{k:List Item}{cs:List Frame}{ops:Array Oper}{i:Nat}{rest:List Nat}{o:Oper}(ho:ops[i]? = some o)(v:Value):Go.Conc.served (G (b.at a (.inRegion ops (i::rest)::k)) cs) v=G (b.at (a.put o.dst v) (.inRegion ops rest::k)) cs:=by
 have:(b.at a (.inRegion ops (i::rest)::k)).finish v=b.at (a.put o.dst v) (.inRegion ops rest::k):=by rw[Frame.finish_at,ho];rfl
 unfold Go.Conc.served
 rw[←this]
 rfl
set_option maxHeartbeats 1000000 in
theorem main_sends(hb:b.kind≠.early)(hl:LowT l b11 Wg)(hC:∀{g W W1},Cl g W→Rv W W1→Cl g W1){W:World}(hw:W.heap[b11]? = some (.cells #[.chan (some c)] 190 fz))(hN:N<9223372036854775807)
  (hcl:∀a',Sls 62 a' l→a'.defers=[]→Gs Tryz.prog Cl (G (b.at a' (.code p17::k)) cs) W):∀(m i:Nat),i+m=N→∀a,Sls 62 a ((48,cX i)::(47,cX N)::l)→a.defers=[]→Gs Tryz.prog (MP Tryz.prog c Cl (sends i N) false) (G (b.at a (.code pX2::.inLoop pX2::.inBlock 2::.code p17::k)) cs) W:=by
 intro m
 induction m with
 | zero=>
  intro i hi a hS hd
  obtain rfl:i=N:=by omega
  have hE:=cR (P:=Tryz.prog) (Q:=MP Tryz.prog c Cl (sends i i) false) (fun h r=>iY (Cl:=Cl) (fun x y=>hC x y) h r)
  refine bU hE _ _ pX2_is ?_
  refine aO hE _ _ 1 rfl (by kernel_rfl) ?_
  refine s_lss (d:=49) (t:=3) (yt:=3) (x:=.tmp 48) (y:=.tmp 47) hE hb (by kernel_rfl) hS (by decide) (hS.ev rfl) (hS.ev rfl) fun a1 hS1 d1=>?_
  refine ao hE ?_
  refine bU hE _ _ rfl ?_
  refine fW hE 49 _ _ rfl hS1 false (by rw[av,if_pos rfl];simp) ?_
  refine s_exit hE 2 rfl (.code p17::k) rfl ?_
  have hS2:Sls 62 a1 l:=((hS1.drop (by rw[av,if_neg (by decide),av,if_neg (by decide)];exact hl.free 49 (by omega))).drop (by rw[av,if_neg (by decide)];exact hl.free 48 (by omega))).drop (hl.free 47 (by omega))
  rw[sends_nil]
  exact(hcl a1 hS2 (d1.trans hd)).mono fun g W h=>⟨rfl,h⟩
 | succ m ih=>
  intro i hi a hS hd
  have hE:=cR (P:=Tryz.prog) (Q:=MP Tryz.prog c Cl (sends i N) false) (fun h r=>iY (Cl:=Cl) (fun x y=>hC x y) h r)
  refine bU hE _ _ pX2_is ?_
  refine aO hE _ _ 1 rfl (by kernel_rfl) ?_
  refine s_lss (d:=49) (t:=3) (yt:=3) (x:=.tmp 48) (y:=.tmp 47) hE hb (by kernel_rfl) hS (by decide) (hS.ev rfl) (hS.ev rfl) fun a1 hS1 d1=>?_
  refine ao hE ?_
  refine bU hE _ _ rfl ?_
  refine fW hE 49 _ _ rfl hS1 true (by rw[av,if_pos rfl];simp;omega) ?_
  refine ju hE rfl ?_
  refine bU hE _ _ rfl ?_
  refine jv hE 3 _ rfl ?_
  refine bU hE _ _ rfl ?_
  refine aO hE _ _ 2 rfl (by kernel_rfl) ?_
  have hS1:Sls 62 a1 ((48,cX i)::(47,cX N)::l):=hS1.drop (by rw[av,if_neg (by decide),av,if_neg (by decide)];exact hl.free 49 (by omega))
  refine db (d:=50) (x:=.tmp 48) hE hb (by kernel_rfl) hS1 (by decide) (cX i) (hS1.ev rfl) fun a2 hS2 d2=>?_
  refine eO (d:=13) (x:=.tmp 50) hE hb (by kernel_rfl) hS2 (by decide) (cX i) (hS2.ev rfl) fun a3 hS3 d3=>?_
  refine ao hE ?_
  refine aO hE _ _ 3 rfl (by kernel_rfl) ?_
  have hw11:a3.eval (.tmp 11)=ptr b11:=hS3.ev (by rw[av,if_neg (by decide),av,if_neg (by decide),av,if_neg (by decide),av,if_neg (by decide)];exact hl.work)
  refine s_load1 (d:=51) (t:=190) (x:=.tmp 11) hE hb (by kernel_rfl) hS3 (by decide) hw11 kR (fun _ h=>by cases h) (fun _ _ h=>by cases h) hw (.chan (some c)) rfl fun a4 hS4 d4=>?_
  refine db (d:=52) (x:=.tmp 13) hE hb (by kernel_rfl) hS4 (by decide) (cX i) (hS4.ev rfl) fun a5 hS5 d5=>?_
  have hO:opk o15 2=some (none,.send (.tmp 51) (.tmp 52),none):=by kernel_rfl
  obtain⟨ty,pos,after,ho⟩:=dT hO
  refine .stop ?_
  rw[sends_cons (by omega)]
  refine⟨_,_,.tuple #[],rfl,fun main w=>?_,?_⟩
  ·refine(stepG_comm ho rfl hb (cases:=#[scase c (cX i) (.tuple #[])]) (blocking:=true) (shape:=.send) (w':=w) ?_).trans ?_
   ·show Result.ok (Next.comm #[{chan:=a5.eval (.tmp 51),send:=some (a5.eval (.tmp 52)),zero:=.tuple #[]}] true .send) w=_
    rw[hS5.ev rfl,hS5.ev rfl]
    rfl
   ·rw[listed_none rfl]
  ·rw[ny ho]
   have hE:=cR (P:=Tryz.prog) (Q:=MP Tryz.prog c Cl (sends (i+1) N) false) (fun h r=>iY (Cl:=Cl) (fun x y=>hC x y) h r)
   refine ao hE (jd hE ?_)
   refine aO hE _ _ 2 rfl (by kernel_rfl) ?_
   have hS6:Sls 62 a5 ((48,cX i)::(47,cX N)::l):=hS5.sub fun t u e=>by
    rw[av,av] at e
    have h0:=hl.free
    simp only[av]
    split at e
    ·rename_i x;subst x;simpa using e
    ·split at e
     ·rename_i x;subst x;simpa using e
     ·have n1:¬(13=t):=fun x=>by rw[←x,h0 13 (.inr rfl)] at e;cases e
      have n2:∀z,38≤z→¬(z=t):=fun z hz x=>by rw[←x,h0 z (.inl hz)] at e;cases e
      simp only[n1,n2 52 (by decide),n2 51 (by decide),n2 50 (by decide),n2 48 (by decide),n2 47 (by decide),if_false]
      exact e
   refine s_add (d:=53) (t:=3) (yt:=3) (x:=.tmp 48) (y:=.const (.int .i64 1)) hE hb (by kernel_rfl) hS6 (by decide) (hS6.ev rfl) rfl fun a7 hS7 d7=>?_
   rw[wrap_ok (by omega)] at hS7
   refine db (d:=48) (x:=.tmp 53) hE hb (by kernel_rfl) hS7 (by decide) (cX (i+1)) (hS7.ev rfl) fun a8 hS8 d8=>?_
   refine ao hE (e_inLoop hE ?_)
   refine ih (i+1) (by omega) a8 (hS8.sub fun t u e=>?_) (d8.trans (d7.trans (d5.trans (d4.trans (d3.trans (d2.trans (d1.trans hd)))))))
   rw[av,av] at e
   have h0:=hl.free
   simp only[av]
   split at e
   ·rename_i x;subst x;simpa using e
   ·rename_i m1
    split at e
    ·rename_i x;subst x;simpa using e
    ·have n2:∀z,38≤z→¬(z=t):=fun z hz x=>by rw[←x,h0 z (.inl hz)] at e;cases e
     simp only[m1,n2 53 (by decide),n2 48 (by decide),n2 47 (by decide),if_false]
     exact e
theorem enter_as{Q:Goroutine→Prop}{f1 f2:Frame}{cs:List Frame}(h:Q (G f1 cs))(e:f2=f1):Q (G f2 cs):=e▸h
theorem Back.out{b₀:Frame}{a₀:Act}{ops₀:Array Oper}{i₀:Nat}{rest₀:List Nat}{k₀:List Item}{cs:List Frame}{g:Goroutine}(h:Back b₀ a₀ ops₀ i₀ rest₀ k₀ cs g):g=G (b₀.at (a₀.put ((ops₀[i₀]?).bind (·.dst)) (.tuple #[])) (.inRegion ops₀ rest₀::k₀)) cs:=h
def FinP(b:Frame)(k:List Item)(cs:List Frame)(l:List (Nat×Value))(g:Goroutine):Prop:=∃a',Sls 62 a' l∧a'.defers=[]∧g=G (b.at a' (.inRegion o18 []::.code p19::k)) cs
set_option maxRecDepth 100000 in
theorem main_close(hb:b.kind≠.early)(hf:b.fn=79)(hl:LowT l b11 Wg){W:World}(hw:W.heap[b11]? = some (.cells #[.chan (some c)] 190 fz)){a:Act}(hS:Sls 62 a l)(hd:a.defers=[]) :
  Gs Tryz.prog (ClQ Tryz.prog link.tWg Wg c (FinP b k cs l)) (G (b.at a (.code p17::k)) cs) W:=by
 have hE:=cR (P:=Tryz.prog) (Q:=ClQ Tryz.prog link.tWg Wg c (FinP b k cs l)) (fun⟨x,y,g',z,u,v⟩ r=>⟨x,y,g',z,u,v.later (fun h _=>h) r⟩)
 refine bU hE _ _ p17_is ?_
 refine aO hE _ _ 2 rfl (by kernel_rfl) ?_
 refine s_load1 (d:=54) (t:=190) (x:=.tmp 11) hE hb (by kernel_rfl) hS (by decide) (hS.ev hl.work) kR (fun _ h=>by cases h) (fun _ _ h=>by cases h) hw (.chan (some c)) rfl fun a1 hS1 d1=>?_
 have hO:opk o17 1=some (none,.call ⟨.builtin .close,#[.tmp 54],#[190]⟩,none):=by kernel_rfl
 obtain⟨ty,pos,after,ho⟩:=dT hO
 have hx:a1.eval (.tmp 54)=.chan (some c):=hS1.ev rfl
 refine .stop ⟨rfl,?_,G (b.at a1 (.inRegion o17 []::.code p18::k)) cs,rfl,fun w s r tm hc=>?_,?_⟩
 ·unfold mayWake
  simp only[G,Frame.at,ho]
  rfl
 ·exact(stepG_close (P:=Tryz.prog) (main:=true) ho rfl hb rfl hx hc (by rw[hf];kernel_rfl)).trans rfl
 ·have hE:=cR (P:=Tryz.prog) (Q:=fun g _=>nh Tryz.prog true link.tWg Wg (FinP b k cs l) g) (fun h _=>h)
  have hS2:Sls 62 a1 l:=hS1.drop (hl.free 54 (by omega))
  refine ao hE ?_
  refine bU hE _ _ p18_is ?_
  refine aO hE _ _ 1 rfl (by kernel_rfl) ?_
  have hO:opk o18 0=some (some 55,.call ⟨.value (.func 117),#[.tmp 12],#[198]⟩,none):=by kernel_rfl
  obtain⟨ty,pos,after,ho⟩:=dT hO
  refine e_enter hE hb ho rfl (f:=117) (args:=#[ptr Wg]) ?_ (fun W1 _=>?_) (.stop ?_)
  ·exact mL (x:=.func 117) rfl rfl (fun args=>iB Tryz.func117 (by kernel_rfl) args)
  ·exact mZ (x:=.func 117) rfl rfl Tryz.call117 (by simp[hS2.ev hl.all])
  ·have hS3:∀v,Sls 62 (a1.put (some 55) v) l:=fun v=>(hS2.put (t:=55) (by decide) v).drop (hl.free 55 (by omega))
   refine enter_as (Q:=nh Tryz.prog true link.tWg Wg (FinP b k cs l)) (wait_mono (fun g hg=>⟨_,hS3 (.tuple #[]),d1.trans hd,?_⟩) _ (wait_walk wgLib (b₀:=b) (a₀:=a1) (ops₀:=o18) (i₀:=0) (rest₀:=[]) (k₀:=.code p19::k) (cs:=cs))) (by kernel_rfl)
   rw[hg.out,ho]
   rfl
noncomputable def kAdd(k:List Item):List Item:=.code (.region 10 o10 false)::.inBlock 1::.code (.region 11 o11 false)::.inLoop pX1::.inBlock 0::.code p12::k
theorem nu:∃fs f i,Tryz.prog.underlying 28=some (.struct fs)∧fs[1]? = some f∧Tryz.prog.info? f.type=some i∧i.size≠0∧f.offset=1:=by
 have h:kC cx 28 1=some (1,⟨1,24,.sl 42,[.v (.slice none 0 0)],false⟩):=by rfl
 obtain⟨fs,f,i,d,e1,e2,e3,e4,e5,e6,e7⟩:=gY h
 exact⟨fs,f,i,e1,e2,e4,by rw[e6];decide,e3⟩
theorem iT:Tryz.prog.underlying 26=some (.slice 42):=by kernel_rfl
set_option maxHeartbeats 1000000 in
theorem main_spawned(hb:b.kind≠.early)(hf:b.fn=79)(hl:LowT l b11 Wg){b9:Nat}(h9:look l 9=some (ptr b9)){W:World}{cs9:Array Value}{fz9:Nat×Nat}{sp:Option Addr}{cap:Nat}
  (hw9:W.heap[b9]? = some (.cells cs9 28 fz9)) (hc9:cs9[1]? = some (.slice sp N cap)) (hw:W.heap[b11]? = some (.cells #[.chan (some c)] 190 fz)) (hN:N<9223372036854775807) {a:Act} (hS:Sls 62 a ((40,cX 0)::(39,cX 1)::l)) (hd:a.defers=[]) :
  Gs Tryz.prog (MP Tryz.prog c (ClQ Tryz.prog link.tWg Wg c (FinP b k cs l)) (sends 0 N) false) (G (b.at a (.inRegion o10 []::.inBlock 1::.code (.region 11 o11 false)::.inLoop pX1::.inBlock 0::.code p12::k)) cs) W:=by
 have hCl:∀{g W W1},ClQ Tryz.prog link.tWg Wg c (FinP b k cs l) g W→Rv W W1→ClQ Tryz.prog link.tWg Wg c (FinP b k cs l) g W1:=fun⟨x,y,g',z,u,v⟩ r=>⟨x,y,g',z,u,v.later (fun h _=>h) r⟩
 have hE:=cR (P:=Tryz.prog) (Q:=MP Tryz.prog c (ClQ Tryz.prog link.tWg Wg c (FinP b k cs l)) (sends 0 N) false) (fun h r=>iY (Cl:=ClQ Tryz.prog link.tWg Wg c (FinP b k cs l)) (fun x y=>hCl x y) h r)
 refine ao hE (jd hE ?_)
 refine aO hE _ _ 2 rfl (by kernel_rfl) ?_
 refine s_add (d:=44) (t:=3) (yt:=3) (x:=.tmp 40) (y:=.const (.int .i64 1)) hE hb (by kernel_rfl) hS (by decide) (hS.ev rfl) rfl fun a1 hS1 d1=>?_
 refine db (d:=40) (x:=.tmp 44) hE hb (by kernel_rfl) hS1 (by decide) (cX 1) (hS1.ev rfl) fun a2 hS2 d2=>?_
 refine ao hE (e_inLoop hE ?_)
 refine bU hE _ _ pX1_is ?_
 refine aO hE _ _ 1 rfl (by kernel_rfl) ?_
 refine s_lss (d:=41) (t:=3) (yt:=3) (x:=.tmp 40) (y:=.tmp 39) hE hb (by kernel_rfl) hS2 (by decide) (hS2.ev rfl) (hS2.ev rfl) fun a3 hS3 d3=>?_
 refine ao hE ?_
 refine bU hE _ _ rfl ?_
 refine fW hE 41 _ _ rfl hS3 false (by rw[av,if_pos rfl];rfl) ?_
 refine s_exit hE 0 rfl (.code p12::k) rfl ?_
 have hS4:Sls 62 a3 l:=hS3.sub fun t u e=>by
  have n2:∀z,38≤z→¬(z=t):=fun z hz x=>by rw[←x,hl.free z (.inl hz)] at e;cases e
  simp only[av,n2 41 (by decide),n2 40 (by decide),n2 44 (by decide),n2 39 (by decide),if_false]
  exact e
 refine bU hE _ _ p12_is ?_
 refine bU hE _ _ rfl ?_
 refine aO hE _ _ 4 rfl (by kernel_rfl) ?_
 obtain⟨fs,f,inf,u1,u2,u3,u4,u5⟩:=nu
 refine s_field (d:=45) (x:=.tmp 9) (kk:=1) hE hb (by kernel_rfl) hS4 (by decide) (hS4.ev h9) u1 u2 u3 u4 fun a5 hS5 d5=>?_
 rw[bO,u5] at hS5
 refine s_load1 (d:=46) (t:=26) (x:=.tmp 45) hE hb (by kernel_rfl) hS5 (by decide) (hS5.ev rfl) iT (fun _ h=>by cases h) (fun _ _ h=>by cases h) hw9 _ hc9 fun a6 hS6 d6=>?_
 refine s_len (d:=47) (t:=26) (x:=.tmp 46) hE hb (by kernel_rfl) hS6 (by decide) (hS6.ev rfl) ⟨_,iT⟩ fun a7 hS7 d7=>?_
 rw[show goInt N=cX N from rfl] at hS7
 refine db (d:=48) (x:=.const (.int .i64 0)) hE hb (by kernel_rfl) hS7 (by decide) (cX 0) rfl fun a8 hS8 d8=>?_
 refine ao hE ?_
 refine jv hE 2 _ rfl (s_loop hE _ rfl ?_)
 refine main_sends (Cl:=ClQ Tryz.prog link.tWg Wg c (FinP b k cs l)) hb hl (fun x y=>hCl x y) hw hN (fun a' hS' hd'=>main_close hb hf hl hw hS' hd') N 0 (by omega) a8 (hS8.sub fun t u e=>?_) (d8.trans (d7.trans (d6.trans (d5.trans (d3.trans (d2.trans (d1.trans hd)))))))
 rw[av,av] at e
 have h0:=hl.free
 simp only[av]
 split at e
 ·rename_i x;subst x;simpa using e
 ·rename_i m1
  split at e
  ·rename_i x;subst x;simpa using e
  ·rename_i m2
   have n2:∀z,38≤z→¬(z=t):=fun z hz x=>by rw[←x,h0 z (.inl hz)] at e;cases e
   simp only[m1,m2,n2 46 (by decide),n2 45 (by decide),if_false]
   exact e
end
end Go.Proofs.YtgigkennhdolpaaGreatDoor
