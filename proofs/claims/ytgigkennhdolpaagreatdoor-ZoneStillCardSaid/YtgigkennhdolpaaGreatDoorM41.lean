/- Company, 39: workers.Parallel, told by hand. -/
import Derived.Test.YtgigkennhdolpaaGreatDoorM26
import Derived.Test.YtgigkennhdolpaaGreatDoorM38
import Derived.Test.YtgigkennhdolpaaGreatDoorM39
import Derived.Test.YtgigkennhdolpaaGreatDoorM40
import Derived.Test.YtgigkennhdolpaaGreatDoorM9
import Derived.Test.YtgigkennhdolpaaGreatDoorM15
import Derived.Conc.TokenWalk
namespace Go.Proofs.YtgigkennhdolpaaGreatDoor
open Go.Conc Go.RowKit
open Go.Conc.Lib Go.ConcR.Gen Go.ConcN.Gen
open Go.ConcR (KK wgBlock WgAt stA smA rd wr mk DC0)
theorem VH.drop{n d:Nat}{a:Act}{l:List (Nat×Value)}{v:Value}(h:VH n a ((d,v)::l))(hd:look l d=none):VH n a l:=h.sub λt u e=>by rw[aw];by_cases x:d=t;subst x;rw[hd] at e;cases e;rw[UC x];exact e
noncomputable def pB:Code:=fM Tryz.f79
noncomputable def p1:Code:=Ve pB
noncomputable def p3:Code:=Ve p1
noncomputable def p4:Code:=Ve p3
noncomputable def p5:Code:=Ve p4
noncomputable def p6:Code:=Ve p5
noncomputable def p7:Code:=Ve p6
noncomputable def p12:Code:=Ve p7
noncomputable def p17:Code:=Ve p12
noncomputable def p18:Code:=Ve p17
noncomputable def p19:Code:=Ve p18
noncomputable def pX1:Code:=lin (bin (Ve (Vo p7)))
noncomputable def pX2:Code:=lin (bin (Ve (Vo p12)))
noncomputable def o9:Array Oper:=Wy (Vo (bin (Vo (Ve (Ve pX1)))))
noncomputable def o10:Array Oper:=Wy (Ve (bin (Vo (Ve (Ve pX1)))))
noncomputable def o11:Array Oper:=Wy (Ve (Ve (Ve pX1)))
noncomputable def o15:Array Oper:=Wy (Ve (bin (Vo (Ve (Ve pX2)))))
noncomputable def o17:Array Oper:=Wy (Vo p17)
noncomputable def o18:Array Oper:=Wy (Vo p18)
theorem Sf:p7=.seq (.seq (.region 7 (Wy (Vo (Vo p7))) false) (.block 0 (.loop pX1))) p12:=by kernel_rfl
theorem PW:p12=.seq (.seq (.region 12 (Wy (Vo (Vo p12))) false) (.block 2 (.loop pX2))) p17:=by kernel_rfl
theorem PV:p17=.seq (.region 17 o17 false) p18:=by kernel_rfl
theorem PU:p18=.seq (.region 18 o18 false) p19:=by kernel_rfl
theorem IL:pX1=.seq (.region 8 (Wy (Vo pX1)) false) (.seq (.cond (.tmp 41) .skip (.exit 0)) (.seq (.block 1 (.seq (.region 9 o9 false) (.region 10 o10 false))) (.region 11 o11 false))):=by kernel_rfl
theorem IK:pX2=.seq (.region 13 (Wy (Vo pX2)) false) (.seq (.cond (.tmp 49) .skip (.exit 2)) (.seq (.block 3 (.seq (.region 14 (Wy (Vo (bin (Vo (Ve (Ve pX2)))))) false) (.region 15 o15 false))) (.region 16 (Wy (Ve (Ve (Ve pX2)))) false))):=by kernel_rfl
def ptr(b:Nat):Value:=.pointer (some ⟨b,0,none⟩)
def dG(i:Nat):Value:=.int .i64 i
theorem LC{i:Nat}(h:i<9223372036854775807):IntKind.i64.wrap ((i:Int)+1)=((i+1:Nat):Int):=by
 have h1:UU ((i:Int)+1):=by unfold UU;omega
 rw[h1.wrap];omega
section
variable {c Wg UX N:Nat}{fz:Nat×Nat}{b:Frame}{k:List Item}{cs:List Frame}{l:List (Nat×Value)}{Cl:Goroutine->World->Prop}
theorem mB:Tryz.prog.underlying 190=some (.chan .both 3):=by kernel_rfl
def sends(i N:Nat):List Value:=(List.range' i (N-i)).map dG
theorem uI(N:Nat):sends N N=[]:=by simp[sends]
theorem rX{i N:Nat}(h:i<N):sends i N=dG i::sends (i+1) N:=by unfold sends;rw[show N-i=(N-(i+1))+1 by omega,List.range'_succ];rfl
structure OJ (l:List (Nat×Value)) (UX Wg:Nat):Prop where
 free:∀t,38<=t∨t=13->look l t=none
 work:look l 11=some (ptr UX)
 all:look l 12=some (ptr Wg)
theorem pk{b:Frame}{a:Act}{k:List Item}{cs:List Frame}{ops:Array Oper}{i:Nat}{rest:List Nat}{o:Oper}(ho:ops[i]? = some o)(v:Value):Go.Conc.served (G (b.at a (.inRegion ops (i::rest)::k)) cs) v=G (b.at (a.put o.dst v) (.inRegion ops rest::k)) cs:=by
 have:(b.at a (.inRegion ops (i::rest)::k)).finish v=b.at (a.put o.dst v) (.inRegion ops rest::k):=by rw[Frame.finish_at,ho];rfl
 unfold Go.Conc.served;rw[<-this];rfl
set_option maxHeartbeats 1000000 in
theorem Bv(hb:b.kind≠.early)(hl:OJ l UX Wg)(hC:∀{g W W1},Cl g W->Rv W W1->Cl g W1){W:World}(hw:W.heap[UX]? = some (.cells #[.chan (some c)] 190 fz))(hN:N<9223372036854775807)
  (YT:∀a',VH 62 a' l->a'.defers=[]->Gs Tryz.prog Cl (G (b.at a' (.code p17::k)) cs) W):∀(m i:Nat),i+m=N->∀a,VH 62 a ((48,dG i)::(47,dG N)::l)->a.defers=[]->Gs Tryz.prog (MP Tryz.prog c Cl (sends i N) false) (G (b.at a (.code pX2::.inLoop pX2::.inBlock 2::.code p17::k)) cs) W:=by
 intro m
 induction m with
 | zero=>
  intro i hi a hS hd;obtain rfl:i=N:=(by omega);have hE:=dh (P:=Tryz.prog) (Q:=MP Tryz.prog c Cl (sends i i) false) (λh r=>j0 (Cl:=Cl) (λx y=>hC x y) h r);refine bZ hE _ _ IK ?_;refine aU hE _ _ 1 rfl (by kernel_rfl) ?_;refine uK (d:=49) (t:=3) (yt:=3) (x:=.tmp 48) (y:=.tmp 47) hE hb (by kernel_rfl) hS (by decide) (hS.ev rfl) (hS.ev rfl) λa1 Wa d1=>?_;refine au hE ?_;refine bZ hE _ _ rfl ?_;refine s_cond hE 49 _ _ rfl Wa false (by rw[aw,UD rfl];simp) ?_;refine s_exit hE 2 rfl (.code p17::k) rfl ?_;have WG:VH 62 a1 l:=((Wa.drop (by rw[aw,UC (by decide),aw,UC (by decide)];exact hl.free 49 (by omega))).drop (by rw[aw,UC (by decide)];exact hl.free 48 (by omega))).drop (hl.free 47 (by omega));rw[uI];exact(YT a1 WG (d1.trans hd)).mono λg W h=>⟨rfl,h⟩
 | succ m ih=>
  intro i hi a hS hd;have hE:=dh (P:=Tryz.prog) (Q:=MP Tryz.prog c Cl (sends i N) false) (λh r=>j0 (Cl:=Cl) (λx y=>hC x y) h r);refine bZ hE _ _ IK ?_;refine aU hE _ _ 1 rfl (by kernel_rfl) ?_;refine uK (d:=49) (t:=3) (yt:=3) (x:=.tmp 48) (y:=.tmp 47) hE hb (by kernel_rfl) hS (by decide) (hS.ev rfl) (hS.ev rfl) λa1 Wa d1=>?_;refine au hE ?_;refine bZ hE _ _ rfl ?_;refine s_cond hE 49 _ _ rfl Wa true (by rw[aw,UD rfl];simp;omega) ?_;refine kF hE rfl ?_;refine bZ hE _ _ rfl ?_;refine kG hE 3 _ rfl ?_;refine bZ hE _ _ rfl ?_;refine aU hE _ _ 2 rfl (by kernel_rfl) ?_;have Wa:VH 62 a1 ((48,dG i)::(47,dG N)::l):=Wa.drop (by rw[aw,UC (by decide),aw,UC (by decide)];exact hl.free 49 (by omega));refine dO (d:=50) (x:=.tmp 48) hE hb (by kernel_rfl) Wa (by decide) (dG i) (Wa.ev rfl) λa2 WG d2=>?_;refine fO (d:=13) (x:=.tmp 50) hE hb (by kernel_rfl) WG (by decide) (dG i) (WG.ev rfl) λa3 XU d3=>?_;refine au hE ?_;refine aU hE _ _ 3 rfl (by kernel_rfl) ?_;have hw11:a3.eval (.tmp 11)=ptr UX:=XU.ev (by rw[aw,UC (by decide),aw,UC (by decide),aw,UC (by decide),aw,UC (by decide)];exact hl.work);refine qU (d:=51) (t:=190) (x:=.tmp 11) hE hb (by kernel_rfl) XU (by decide) hw11 mB (λ_ h=>by cases h) (λ_ _ h=>by cases h) hw (.chan (some c)) rfl λa4 YV d4=>?_;refine dO (d:=52) (x:=.tmp 13) hE hb (by kernel_rfl) YV (by decide) (dG i) (YV.ev rfl) λa5 Xu d5=>?_;have hO:WY o15 2=some (none,.send (.tmp 51) (.tmp 52),none):=(by kernel_rfl);obtain⟨ty,pos,after,ho⟩:=eW hO;refine .stop ?_;rw[rX (by omega)];refine⟨_,_,.tuple #[],rfl,λmain w=>?_,?_⟩;refine(stepG_comm ho rfl hb (cases:=#[scase c (dG i) (.tuple #[])]) (blocking:=true) (shape:=.send) (w':=w) ?_).trans ?_;show Result.ok (Next.comm #[{chan:=a5.eval (.tmp 51),send:=some (a5.eval (.tmp 52)),zero:=.tuple #[]}] true .send) w=_;rw[Xu.ev rfl,Xu.ev rfl];rfl;rw[listed_none rfl];rw[pk ho];have hE:=dh (P:=Tryz.prog) (Q:=MP Tryz.prog c Cl (sends (i+1) N) false) (λh r=>j0 (Cl:=Cl) (λx y=>hC x y) h r);refine au hE (ia hE ?_);refine aU hE _ _ 2 rfl (by kernel_rfl) ?_;have Zg:VH 62 a5 ((48,dG i)::(47,dG N)::l):=Xu.sub λt u e=>(by rw[aw,aw] at e;have h0:=hl.free;simp only[aw];split at e;rename_i x;subst x;simpa using e;split at e;rename_i x;subst x;simpa using e;have n1:¬(13=t):=λx=>(by rw[<-x,h0 13 (.inr rfl)] at e;cases e);have n2:∀z,38<=z->¬(z=t):=λz hz x=>(by rw[<-x,h0 z (.inl hz)] at e;cases e);simp only[n1,n2 52 (by decide),n2 51 (by decide),n2 50 (by decide),n2 48 (by decide),n2 47 (by decide),if_false];exact e);refine H6 (d:=53) (t:=3) (yt:=3) (x:=.tmp 48) (y:=.const (.int .i64 1)) hE hb (by kernel_rfl) Zg (by decide) (Zg.ev rfl) rfl λa7 YH d7=>?_;rw[LC (by omega)] at YH;refine dO (d:=48) (x:=.tmp 53) hE hb (by kernel_rfl) YH (by decide) (dG (i+1)) (YH.ev rfl) λa8 hS8 d8=>?_;refine au hE (tv hE ?_);refine ih (i+1) (by omega) a8 (hS8.sub λt u e=>?_) (d8.trans (d7.trans (d5.trans (d4.trans (d3.trans (d2.trans (d1.trans hd)))))));rw[aw,aw] at e;have h0:=hl.free;simp only[aw];split at e;rename_i x;subst x;simpa using e;rename_i m1;split at e;rename_i x;subst x;simpa using e;have n2:∀z,38<=z->¬(z=t):=λz hz x=>(by rw[<-x,h0 z (.inl hz)] at e;cases e);simp only[m1,n2 53 (by decide),n2 48 (by decide),n2 47 (by decide),if_false];exact e
theorem tq{Q:Goroutine->Prop}{f1 f2:Frame}{cs:List Frame}(h:Q (G f1 cs))(e:f2=f1):Q (G f2 cs):=e▸h
theorem Hn.out{b₀:Frame}{a₀:Act}{ops₀:Array Oper}{i₀:Nat}{rest₀:List Nat}{k₀:List Item}{cs:List Frame}{g:Goroutine}(h:Hn b₀ a₀ ops₀ i₀ rest₀ k₀ cs g):g=G (b₀.at (a₀.put ((ops₀[i₀]?).bind (·.dst)) (.tuple #[])) (.inRegion ops₀ rest₀::k₀)) cs:=h
def qR(b:Frame)(k:List Item)(cs:List Frame)(l:List (Nat×Value))(g:Goroutine):Prop:=∃a',VH 62 a' l∧a'.defers=[]∧g=G (b.at a' (.inRegion o18 []::.code p19::k)) cs
set_option maxRecDepth 100000 in
theorem Bz(hb:b.kind≠.early)(hf:b.fn=79)(hl:OJ l UX Wg){W:World}(hw:W.heap[UX]? = some (.cells #[.chan (some c)] 190 fz)){a:Act}(hS:VH 62 a l)(hd:a.defers=[]) :
  Gs Tryz.prog (XH Tryz.prog link.tWg Wg c (qR b k cs l)) (G (b.at a (.code p17::k)) cs) W:=by
 have hE:=dh (P:=Tryz.prog) (Q:=XH Tryz.prog link.tWg Wg c (qR b k cs l)) (λ⟨x,y,g',z,u,v⟩ r=>⟨x,y,g',z,u,v.later (λh _=>h) r⟩);refine bZ hE _ _ PV ?_;refine aU hE _ _ 2 rfl (by kernel_rfl) ?_;refine qU (d:=54) (t:=190) (x:=.tmp 11) hE hb (by kernel_rfl) hS (by decide) (hS.ev hl.work) mB (λ_ h=>by cases h) (λ_ _ h=>by cases h) hw (.chan (some c)) rfl λa1 Wa d1=>?_;have hO:WY o17 1=some (none,.call ⟨.builtin .close,#[.tmp 54],#[190]⟩,none):=by kernel_rfl
 obtain⟨ty,pos,after,ho⟩:=eW hO;have hx:a1.eval (.tmp 54)=.chan (some c):=Wa.ev rfl;refine .stop ⟨rfl,?_,G (b.at a1 (.inRegion o17 []::.code p18::k)) cs,rfl,λw s r tm hc=>?_,?_⟩;unfold mayWake;simp only[G,Frame.at,ho];rfl;exact(stepG_close (P:=Tryz.prog) (main:=true) ho rfl hb rfl hx hc (by rw[hf];kernel_rfl)).trans rfl;have hE:=dh (P:=Tryz.prog) (Q:=λg _=>oX Tryz.prog true link.tWg Wg (qR b k cs l) g) (λh _=>h);have WG:VH 62 a1 l:=Wa.drop (hl.free 54 (by omega));refine au hE ?_;refine bZ hE _ _ PU ?_;refine aU hE _ _ 1 rfl (by kernel_rfl) ?_;have hO:WY o18 0=some (some 55,.call ⟨.value (.func 117),#[.tmp 12],#[198]⟩,none):=by kernel_rfl
 obtain⟨ty,pos,after,ho⟩:=eW hO;refine Ec hE hb ho rfl (f:=117) (args:=#[ptr Wg]) ?_ (λW1 _=>?_) (.stop ?_);exact ou (x:=.func 117) rfl rfl (λargs=>jA Tryz.func117 (by kernel_rfl) args);exact oI (x:=.func 117) rfl rfl Tryz.call117 (by simp[WG.ev hl.all]);have XU:∀v,VH 62 (a1.put (some 55) v) l:=λv=>(WG.put (t:=55) (by decide) v).drop (hl.free 55 (by omega));refine tq (Q:=oX Tryz.prog true link.tWg Wg (qR b k cs l)) (EP (λg hg=>⟨_,XU (.tuple #[]),d1.trans hd,?_⟩) _ (EO Hu (b₀:=b) (a₀:=a1) (ops₀:=o18) (i₀:=0) (rest₀:=[]) (k₀:=.code p19::k) (cs:=cs))) (by kernel_rfl);rw[hg.out,ho];rfl
noncomputable def Jj(k:List Item):List Item:=.code (.region 10 o10 false)::.inBlock 1::.code (.region 11 o11 false)::.inLoop pX1::.inBlock 0::.code p12::k
theorem pb:∃fs f i,Tryz.prog.underlying 28=some (.struct fs)∧fs[1]? = some f∧Tryz.prog.info? f.type=some i∧i.size≠0∧f.offset=1:=by
 have h:lY cx 28 1=some (1,⟨1,24,.sl 42,[.v (.slice none 0 0)],false⟩):=by rfl
 obtain⟨fs,f,i,d,e1,e2,e3,e4,e5,e6,e7⟩:=iX h;exact⟨fs,f,i,e1,e2,e4,by rw[e6];decide,e3⟩
theorem jU:Tryz.prog.underlying 26=some (.slice 42):=by kernel_rfl
set_option maxHeartbeats 1000000 in
theorem wG(hb:b.kind≠.early)(hf:b.fn=79)(hl:OJ l UX Wg){b9:Nat}(h9:look l 9=some (ptr b9)){W:World}{cs9:Array Value}{fz9:Nat×Nat}{sp:Option Addr}{cap:Nat}
  (hw9:W.heap[b9]? = some (.cells cs9 28 fz9)) (hc9:cs9[1]? = some (.slice sp N cap)) (hw:W.heap[UX]? = some (.cells #[.chan (some c)] 190 fz)) (hN:N<9223372036854775807) {a:Act} (hS:VH 62 a ((40,dG 0)::(39,dG 1)::l)) (hd:a.defers=[]) :
  Gs Tryz.prog (MP Tryz.prog c (XH Tryz.prog link.tWg Wg c (qR b k cs l)) (sends 0 N) false) (G (b.at a (.inRegion o10 []::.inBlock 1::.code (.region 11 o11 false)::.inLoop pX1::.inBlock 0::.code p12::k)) cs) W:=by
 have hCl:∀{g W W1},XH Tryz.prog link.tWg Wg c (qR b k cs l) g W->Rv W W1->XH Tryz.prog link.tWg Wg c (qR b k cs l) g W1:=λ⟨x,y,g',z,u,v⟩ r=>⟨x,y,g',z,u,v.later (λh _=>h) r⟩
 have hE:=dh (P:=Tryz.prog) (Q:=MP Tryz.prog c (XH Tryz.prog link.tWg Wg c (qR b k cs l)) (sends 0 N) false) (λh r=>j0 (Cl:=XH Tryz.prog link.tWg Wg c (qR b k cs l)) (λx y=>hCl x y) h r);refine au hE (ia hE ?_);refine aU hE _ _ 2 rfl (by kernel_rfl) ?_;refine H6 (d:=44) (t:=3) (yt:=3) (x:=.tmp 40) (y:=.const (.int .i64 1)) hE hb (by kernel_rfl) hS (by decide) (hS.ev rfl) rfl λa1 Wa d1=>?_;refine dO (d:=40) (x:=.tmp 44) hE hb (by kernel_rfl) Wa (by decide) (dG 1) (Wa.ev rfl) λa2 WG d2=>?_;refine au hE (tv hE ?_);refine bZ hE _ _ IL ?_;refine aU hE _ _ 1 rfl (by kernel_rfl) ?_;refine uK (d:=41) (t:=3) (yt:=3) (x:=.tmp 40) (y:=.tmp 39) hE hb (by kernel_rfl) WG (by decide) (WG.ev rfl) (WG.ev rfl) λa3 XU d3=>?_;refine au hE ?_;refine bZ hE _ _ rfl ?_;refine s_cond hE 41 _ _ rfl XU false (by rw[aw,UD rfl];rfl) ?_;refine s_exit hE 0 rfl (.code p12::k) rfl ?_;have YV:VH 62 a3 l:=XU.sub λt u e=>by have n2:∀z,38<=z->¬(z=t):=λz hz x=>(by rw[<-x,hl.free z (.inl hz)] at e;cases e);simp only[aw,n2 41 (by decide),n2 40 (by decide),n2 44 (by decide),n2 39 (by decide),if_false];exact e
 refine bZ hE _ _ PW ?_;refine bZ hE _ _ rfl ?_;refine aU hE _ _ 4 rfl (by kernel_rfl) ?_;obtain⟨fs,f,inf,u1,u2,u3,u4,u5⟩:=pb;refine L6 (d:=45) (x:=.tmp 9) (kk:=1) hE hb (by kernel_rfl) YV (by decide) (YV.ev h9) u1 u2 u3 u4 λa5 Xu d5=>?_;rw[bR,u5] at Xu;refine qU (d:=46) (t:=26) (x:=.tmp 45) hE hb (by kernel_rfl) Xu (by decide) (Xu.ev rfl) jU (λ_ h=>by cases h) (λ_ _ h=>by cases h) hw9 _ hc9 λa6 Zg d6=>?_;refine C1 (d:=47) (t:=26) (x:=.tmp 46) hE hb (by kernel_rfl) Zg (by decide) (Zg.ev rfl) ⟨_,jU⟩ λa7 YH d7=>?_;rw[show goInt N=dG N from rfl] at YH;refine dO (d:=48) (x:=.const (.int .i64 0)) hE hb (by kernel_rfl) YH (by decide) (dG 0) rfl λa8 hS8 d8=>?_;refine au hE ?_;refine kG hE 2 _ rfl (vS hE _ rfl ?_);refine Bv (Cl:=XH Tryz.prog link.tWg Wg c (qR b k cs l)) hb hl (λx y=>hCl x y) hw hN (λa' hS' XN=>Bz hb hf hl hw hS' XN) N 0 (by omega) a8 (hS8.sub λt u e=>?_) (d8.trans (d7.trans (d6.trans (d5.trans (d3.trans (d2.trans (d1.trans hd)))))));rw[aw,aw] at e;have h0:=hl.free;simp only[aw];split at e;rename_i x;subst x;simpa using e;rename_i m1;split at e;rename_i x;subst x;simpa using e;rename_i m2;have n2:∀z,38<=z->¬(z=t):=λz hz x=>by rw[<-x,h0 z (.inl hz)] at e;cases e
 simp only[m1,m2,n2 46 (by decide),n2 45 (by decide),if_false];exact e
end
end Go.Proofs.YtgigkennhdolpaaGreatDoor
