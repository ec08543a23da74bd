/- Company, 39: workers.Parallel, told by hand. -/
import Derived.Test.YtgigkennhdolpaaGreatDoorM26
import Derived.Test.YtgigkennhdolpaaGreatDoorM37
import Derived.Test.YtgigkennhdolpaaGreatDoorM38
import Derived.Test.YtgigkennhdolpaaGreatDoorM39
import Derived.Test.YtgigkennhdolpaaGreatDoorM10
import Derived.Test.YtgigkennhdolpaaGreatDoorM17
import Derived.Conc.TokenWalk
namespace Go.Proofs.YtgigkennhdolpaaGreatDoor
open Go.Conc Go.RowKit
open Go.Conc.Lib Go.ConcR.Gen Go.ConcN.Gen
open Go.ConcR (KK wgBlock WgAt stA smA rd wr mk DC0)
theorem Vy.drop{n d:Nat}{a:Act}{l:List (Nat×Value)}{v:Value}(h:Vy n a ((d,v)::l))(hd:look l d=none):Vy n a l:=h.sub λt u e=>by rw[au];by_cases x:d=t;subst x;rw[hd] at e;cases e;rw[Uv x];exact e
noncomputable def pB:Code:=eG Tryz.f79
noncomputable def p1:Code:=U6 pB
noncomputable def p3:Code:=U6 p1
noncomputable def p4:Code:=U6 p3
noncomputable def p5:Code:=U6 p4
noncomputable def p6:Code:=U6 p5
noncomputable def p7:Code:=U6 p6
noncomputable def p12:Code:=U6 p7
noncomputable def p17:Code:=U6 p12
noncomputable def p18:Code:=U6 p17
noncomputable def p19:Code:=U6 p18
noncomputable def pX1:Code:=lin (bin (U6 (Ve p7)))
noncomputable def pX2:Code:=lin (bin (U6 (Ve p12)))
noncomputable def o9:Array Oper:=Wo (Ve (bin (Ve (U6 (U6 pX1)))))
noncomputable def o10:Array Oper:=Wo (U6 (bin (Ve (U6 (U6 pX1)))))
noncomputable def o11:Array Oper:=Wo (U6 (U6 (U6 pX1)))
noncomputable def o15:Array Oper:=Wo (U6 (bin (Ve (U6 (U6 pX2)))))
noncomputable def o17:Array Oper:=Wo (Ve p17)
noncomputable def o18:Array Oper:=Wo (Ve p18)
theorem R1:p7=.seq (.seq (.region 7 (Wo (Ve (Ve p7))) false) (.block 0 (.loop pX1))) p12:=by kernel_rfl
theorem Pu:p12=.seq (.seq (.region 12 (Wo (Ve (Ve p12))) false) (.block 2 (.loop pX2))) p17:=by kernel_rfl
theorem Ps:p17=.seq (.region 17 o17 false) p18:=by kernel_rfl
theorem Pr:p18=.seq (.region 18 o18 false) p19:=by kernel_rfl
theorem H2:pX1=.seq (.region 8 (Wo (Ve pX1)) false) (.seq (.cond (.tmp 41) .skip (.exit 0)) (.seq (.block 1 (.seq (.region 9 o9 false) (.region 10 o10 false))) (.region 11 o11 false))):=by kernel_rfl
theorem HZ:pX2=.seq (.region 13 (Wo (Ve pX2)) false) (.seq (.cond (.tmp 49) .skip (.exit 2)) (.seq (.block 3 (.seq (.region 14 (Wo (Ve (bin (Ve (U6 (U6 pX2)))))) false) (.region 15 o15 false))) (.region 16 (Wo (U6 (U6 (U6 pX2)))) false))):=by kernel_rfl
def ptr(b:Nat):Value:=.pointer (some ⟨b,0,none⟩)
def de(i:Nat):Value:=.int .i64 i
theorem K0{i:Nat}(h:i<9223372036854775807):IntKind.i64.wrap ((i:Int)+1)=((i+1:Nat):Int):=by
 have h1:Vd ((i:Int)+1):=by unfold Vd;omega
 rw[h1.wrap];omega
section
variable {c Wg UN N:Nat}{fz:Nat×Nat}{b:Frame}{k:List Item}{cs:List Frame}{l:List (Nat×Value)}{Cl:Goroutine->World->Prop}
theorem mj:Tryz.prog.underlying 190=some (.chan .both 3):=by kernel_rfl
def sends(i N:Nat):List Value:=(List.range' i (N-i)).map de
theorem uB(N:Nat):sends N N=[]:=by simp[sends]
theorem rK{i N:Nat}(h:i<N):sends i N=de i::sends (i+1) N:=by unfold sends;rw[show N-i=(N-(i+1))+1 by omega,List.range'_succ];rfl
structure N4 (l:List (Nat×Value)) (UN Wg:Nat):Prop where
 free:∀t,38<=t∨t=13->look l t=none
 work:look l 11=some (ptr UN)
 all:look l 12=some (ptr Wg)
theorem oU{b:Frame}{a:Act}{k:List Item}{cs:List Frame}{ops:Array Oper}{i:Nat}{rest:List Nat}{o:Oper}(ho:ops[i]? = some o)(v:Value):Go.Conc.served (G (b.at a (.inRegion ops (i::rest)::k)) cs) v=G (b.at (a.put o.dst v) (.inRegion ops rest::k)) cs:=by
 have:(b.at a (.inRegion ops (i::rest)::k)).finish v=b.at (a.put o.dst v) (.inRegion ops rest::k):=by rw[Frame.finish_at,ho];rfl
 unfold Go.Conc.served;rw[<-this];rfl
set_option maxHeartbeats 1000000 in
theorem Bd(hb:b.kind≠.early)(hl:N4 l UN Wg)(hC:∀{g W W1},Cl g W->Rv W W1->Cl g W1){W:World}(hw:W.heap[UN]? = some (.cells #[.chan (some c)] 190 fz))(hN:N<9223372036854775807)
  (YR:∀a',Vy 62 a' l->a'.defers=[]->Gs Tryz.prog Cl (G (b.at a' (.code p17::k)) cs) W):∀(m i:Nat),i+m=N->∀a,Vy 62 a ((48,de i)::(47,de N)::l)->a.defers=[]->Gs Tryz.prog (MP Tryz.prog c Cl (sends i N) false) (G (b.at a (.code pX2::.inLoop pX2::.inBlock 2::.code p17::k)) cs) W:=by
 intro m
 induction m with
 | zero=>
  intro i hi a hS hd;obtain rfl:i=N:=(by omega);have hE:=cV (P:=Tryz.prog) (Q:=MP Tryz.prog c Cl (sends i i) false) (λh r=>jK (Cl:=Cl) (λx y=>hC x y) h r);refine bU hE _ _ HZ ?_;refine aQ hE _ _ 1 rfl (by kernel_rfl) ?_;refine uD (d:=49) (t:=3) (yt:=3) (x:=.tmp 48) (y:=.tmp 47) hE hb (by kernel_rfl) hS (by decide) (hS.ev rfl) (hS.ev rfl) λa1 V1 d1=>?_;refine ao hE ?_;refine bU hE _ _ rfl ?_;refine s_cond hE 49 _ _ rfl V1 false (by rw[au,Uw rfl];simp) ?_;refine s_exit hE 2 rfl (.code p17::k) rfl ?_;have Wt:Vy 62 a1 l:=((V1.drop (by rw[au,Uv (by decide),au,Uv (by decide)];exact hl.free 49 (by omega))).drop (by rw[au,Uv (by decide)];exact hl.free 48 (by omega))).drop (hl.free 47 (by omega));rw[uB];exact(YR a1 Wt (d1.trans hd)).mono λg W h=>⟨rfl,h⟩
 | succ m ih=>
  intro i hi a hS hd;have hE:=cV (P:=Tryz.prog) (Q:=MP Tryz.prog c Cl (sends i N) false) (λh r=>jK (Cl:=Cl) (λx y=>hC x y) h r);refine bU hE _ _ HZ ?_;refine aQ hE _ _ 1 rfl (by kernel_rfl) ?_;refine uD (d:=49) (t:=3) (yt:=3) (x:=.tmp 48) (y:=.tmp 47) hE hb (by kernel_rfl) hS (by decide) (hS.ev rfl) (hS.ev rfl) λa1 V1 d1=>?_;refine ao hE ?_;refine bU hE _ _ rfl ?_;refine s_cond hE 49 _ _ rfl V1 true (by rw[au,Uw rfl];simp;omega) ?_;refine kl hE rfl ?_;refine bU hE _ _ rfl ?_;refine km hE 3 _ rfl ?_;refine bU hE _ _ rfl ?_;refine aQ hE _ _ 2 rfl (by kernel_rfl) ?_;have V1:Vy 62 a1 ((48,de i)::(47,de N)::l):=V1.drop (by rw[au,Uv (by decide),au,Uv (by decide)];exact hl.free 49 (by omega));refine dA (d:=50) (x:=.tmp 48) hE hb (by kernel_rfl) V1 (by decide) (de i) (V1.ev rfl) λa2 Wt d2=>?_;refine fq (d:=13) (x:=.tmp 50) hE hb (by kernel_rfl) Wt (by decide) (de i) (Wt.ev rfl) λa3 XO d3=>?_;refine ao hE ?_;refine aQ hE _ _ 3 rfl (by kernel_rfl) ?_;have hw11:a3.eval (.tmp 11)=ptr UN:=XO.ev (by rw[au,Uv (by decide),au,Uv (by decide),au,Uv (by decide),au,Uv (by decide)];exact hl.work);refine qI (d:=51) (t:=190) (x:=.tmp 11) hE hb (by kernel_rfl) XO (by decide) hw11 mj (λ_ h=>by cases h) (λ_ _ h=>by cases h) hw (.chan (some c)) rfl λa4 YT d4=>?_;refine dA (d:=52) (x:=.tmp 13) hE hb (by kernel_rfl) YT (by decide) (de i) (YT.ev rfl) λa5 Xn d5=>?_;have hO:WN o15 2=some (none,.send (.tmp 51) (.tmp 52),none):=(by kernel_rfl);obtain⟨ty,pos,after,ho⟩:=eF hO;refine .stop ?_;rw[rK (by omega)];refine⟨_,_,.tuple #[],rfl,λmain w=>?_,?_⟩;refine(stepG_comm ho rfl hb (cases:=#[scase c (de i) (.tuple #[])]) (blocking:=true) (shape:=.send) (w':=w) ?_).trans ?_;show Result.ok (Next.comm #[{chan:=a5.eval (.tmp 51),send:=some (a5.eval (.tmp 52)),zero:=.tuple #[]}] true .send) w=_;rw[Xn.ev rfl,Xn.ev rfl];rfl;rw[listed_none rfl];rw[oU ho];have hE:=cV (P:=Tryz.prog) (Q:=MP Tryz.prog c Cl (sends (i+1) N) false) (λh r=>jK (Cl:=Cl) (λx y=>hC x y) h r);refine ao hE (fb hE ?_);refine aQ hE _ _ 2 rfl (by kernel_rfl) ?_;have Y6:Vy 62 a5 ((48,de i)::(47,de N)::l):=Xn.sub λt u e=>(by rw[au,au] at e;have h0:=hl.free;simp only[au];split at e;rename_i x;subst x;simpa using e;split at e;rename_i x;subst x;simpa using e;have n1:¬(13=t):=λx=>(by rw[<-x,h0 13 (.inr rfl)] at e;cases e);have n2:∀z,38<=z->¬(z=t):=λz hz x=>(by rw[<-x,h0 z (.inl hz)] at e;cases e);simp only[n1,n2 52 (by decide),n2 51 (by decide),n2 50 (by decide),n2 48 (by decide),n2 47 (by decide),if_false];exact e);refine Hl (d:=53) (t:=3) (yt:=3) (x:=.tmp 48) (y:=.const (.int .i64 1)) hE hb (by kernel_rfl) Y6 (by decide) (Y6.ev rfl) rfl λa7 YB d7=>?_;rw[K0 (by omega)] at YB;refine dA (d:=48) (x:=.tmp 53) hE hb (by kernel_rfl) YB (by decide) (de (i+1)) (YB.ev rfl) λa8 hS8 d8=>?_;refine ao hE (lV hE ?_);refine ih (i+1) (by omega) a8 (hS8.sub λt u e=>?_) (d8.trans (d7.trans (d5.trans (d4.trans (d3.trans (d2.trans (d1.trans hd)))))));rw[au,au] at e;have h0:=hl.free;simp only[au];split at e;rename_i x;subst x;simpa using e;rename_i m1;split at e;rename_i x;subst x;simpa using e;have n2:∀z,38<=z->¬(z=t):=λz hz x=>(by rw[<-x,h0 z (.inl hz)] at e;cases e);simp only[m1,n2 53 (by decide),n2 48 (by decide),n2 47 (by decide),if_false];exact e
theorem ta{Q:Goroutine->Prop}{f1 f2:Frame}{cs:List Frame}(h:Q (G f1 cs))(e:f2=f1):Q (G f2 cs):=e▸h
theorem GJ.out{b₀:Frame}{a₀:Act}{ops₀:Array Oper}{i₀:Nat}{rest₀:List Nat}{k₀:List Item}{cs:List Frame}{g:Goroutine}(h:GJ b₀ a₀ ops₀ i₀ rest₀ k₀ cs g):g=G (b₀.at (a₀.put ((ops₀[i₀]?).bind (·.dst)) (.tuple #[])) (.inRegion ops₀ rest₀::k₀)) cs:=h
def qF(b:Frame)(k:List Item)(cs:List Frame)(l:List (Nat×Value))(g:Goroutine):Prop:=∃a',Vy 62 a' l∧a'.defers=[]∧g=G (b.at a' (.inRegion o18 []::.code p19::k)) cs
set_option maxRecDepth 100000 in
theorem Bg(hb:b.kind≠.early)(hf:b.fn=79)(hl:N4 l UN Wg){W:World}(hw:W.heap[UN]? = some (.cells #[.chan (some c)] 190 fz)){a:Act}(hS:Vy 62 a l)(hd:a.defers=[]) :
  Gs Tryz.prog (XB Tryz.prog link.tWg Wg c (qF b k cs l)) (G (b.at a (.code p17::k)) cs) W:=by
 have hE:=cV (P:=Tryz.prog) (Q:=XB Tryz.prog link.tWg Wg c (qF b k cs l)) (λ⟨x,y,g',z,u,v⟩ r=>⟨x,y,g',z,u,v.later (λh _=>h) r⟩);refine bU hE _ _ Ps ?_;refine aQ hE _ _ 2 rfl (by kernel_rfl) ?_;refine qI (d:=54) (t:=190) (x:=.tmp 11) hE hb (by kernel_rfl) hS (by decide) (hS.ev hl.work) mj (λ_ h=>by cases h) (λ_ _ h=>by cases h) hw (.chan (some c)) rfl λa1 V1 d1=>?_;have hO:WN o17 1=some (none,.call ⟨.builtin .close,#[.tmp 54],#[190]⟩,none):=by kernel_rfl
 obtain⟨ty,pos,after,ho⟩:=eF hO;have hx:a1.eval (.tmp 54)=.chan (some c):=V1.ev rfl;refine .stop ⟨rfl,?_,G (b.at a1 (.inRegion o17 []::.code p18::k)) cs,rfl,λw s r tm hc=>?_,?_⟩;unfold mayWake;simp only[G,Frame.at,ho];rfl;exact(stepG_close (P:=Tryz.prog) (main:=true) ho rfl hb rfl hx hc (by rw[hf];kernel_rfl)).trans rfl;have hE:=cV (P:=Tryz.prog) (Q:=λg _=>oI Tryz.prog true link.tWg Wg (qF b k cs l) g) (λh _=>h);have Wt:Vy 62 a1 l:=V1.drop (hl.free 54 (by omega));refine ao hE ?_;refine bU hE _ _ Pr ?_;refine aQ hE _ _ 1 rfl (by kernel_rfl) ?_;have hO:WN o18 0=some (some 55,.call ⟨.value (.func 117),#[.tmp 12],#[198]⟩,none):=by kernel_rfl
 obtain⟨ty,pos,after,ho⟩:=eF hO;refine Dz hE hb ho rfl (f:=117) (args:=#[ptr Wg]) ?_ (λW1 _=>?_) (.stop ?_);exact oi (x:=.func 117) rfl rfl (λargs=>jd Tryz.func117 (by kernel_rfl) args);exact oA (x:=.func 117) rfl rfl Tryz.call117 (by simp[Wt.ev hl.all]);have XO:∀v,Vy 62 (a1.put (some 55) v) l:=λv=>(Wt.put (t:=55) (by decide) v).drop (hl.free 55 (by omega));refine ta (Q:=oI Tryz.prog true link.tWg Wg (qF b k cs l)) (En (λg hg=>⟨_,XO (.tuple #[]),d1.trans hd,?_⟩) _ (Em GY (b₀:=b) (a₀:=a1) (ops₀:=o18) (i₀:=0) (rest₀:=[]) (k₀:=.code p19::k) (cs:=cs))) (by kernel_rfl);rw[hg.out,ho];rfl
noncomputable def IG(k:List Item):List Item:=.code (.region 10 o10 false)::.inBlock 1::.code (.region 11 o11 false)::.inLoop pX1::.inBlock 0::.code p12::k
theorem oO:∃fs f i,Tryz.prog.underlying 28=some (.struct fs)∧fs[1]? = some f∧Tryz.prog.info? f.type=some i∧i.size≠0∧f.offset=1:=by
 have h:lS cx 28 1=some (1,⟨1,24,.sl 42,[.v (.slice none 0 0)],false⟩):=by rfl
 obtain⟨fs,f,i,d,e1,e2,e3,e4,e5,e6,e7⟩:=iC h;exact⟨fs,f,i,e1,e2,e4,by rw[e6];decide,e3⟩
theorem jE:Tryz.prog.underlying 26=some (.slice 42):=by kernel_rfl
set_option maxHeartbeats 1000000 in
theorem wy(hb:b.kind≠.early)(hf:b.fn=79)(hl:N4 l UN Wg){b9:Nat}(h9:look l 9=some (ptr b9)){W:World}{cs9:Array Value}{fz9:Nat×Nat}{sp:Option Addr}{cap:Nat}
  (hw9:W.heap[b9]? = some (.cells cs9 28 fz9)) (hc9:cs9[1]? = some (.slice sp N cap)) (hw:W.heap[UN]? = some (.cells #[.chan (some c)] 190 fz)) (hN:N<9223372036854775807) {a:Act} (hS:Vy 62 a ((40,de 0)::(39,de 1)::l)) (hd:a.defers=[]) :
  Gs Tryz.prog (MP Tryz.prog c (XB Tryz.prog link.tWg Wg c (qF b k cs l)) (sends 0 N) false) (G (b.at a (.inRegion o10 []::.inBlock 1::.code (.region 11 o11 false)::.inLoop pX1::.inBlock 0::.code p12::k)) cs) W:=by
 have hCl:∀{g W W1},XB Tryz.prog link.tWg Wg c (qF b k cs l) g W->Rv W W1->XB Tryz.prog link.tWg Wg c (qF b k cs l) g W1:=λ⟨x,y,g',z,u,v⟩ r=>⟨x,y,g',z,u,v.later (λh _=>h) r⟩
 have hE:=cV (P:=Tryz.prog) (Q:=MP Tryz.prog c (XB Tryz.prog link.tWg Wg c (qF b k cs l)) (sends 0 N) false) (λh r=>jK (Cl:=XB Tryz.prog link.tWg Wg c (qF b k cs l)) (λx y=>hCl x y) h r);refine ao hE (fb hE ?_);refine aQ hE _ _ 2 rfl (by kernel_rfl) ?_;refine Hl (d:=44) (t:=3) (yt:=3) (x:=.tmp 40) (y:=.const (.int .i64 1)) hE hb (by kernel_rfl) hS (by decide) (hS.ev rfl) rfl λa1 V1 d1=>?_;refine dA (d:=40) (x:=.tmp 44) hE hb (by kernel_rfl) V1 (by decide) (de 1) (V1.ev rfl) λa2 Wt d2=>?_;refine ao hE (lV hE ?_);refine bU hE _ _ H2 ?_;refine aQ hE _ _ 1 rfl (by kernel_rfl) ?_;refine uD (d:=41) (t:=3) (yt:=3) (x:=.tmp 40) (y:=.tmp 39) hE hb (by kernel_rfl) Wt (by decide) (Wt.ev rfl) (Wt.ev rfl) λa3 XO d3=>?_;refine ao hE ?_;refine bU hE _ _ rfl ?_;refine s_cond hE 41 _ _ rfl XO false (by rw[au,Uw rfl];rfl) ?_;refine s_exit hE 0 rfl (.code p12::k) rfl ?_;have YT:Vy 62 a3 l:=XO.sub λt u e=>by have n2:∀z,38<=z->¬(z=t):=λz hz x=>(by rw[<-x,hl.free z (.inl hz)] at e;cases e);simp only[au,n2 41 (by decide),n2 40 (by decide),n2 44 (by decide),n2 39 (by decide),if_false];exact e
 refine bU hE _ _ Pu ?_;refine bU hE _ _ rfl ?_;refine aQ hE _ _ 4 rfl (by kernel_rfl) ?_;obtain⟨fs,f,inf,u1,u2,u3,u4,u5⟩:=oO;refine Lj (d:=45) (x:=.tmp 9) (kk:=1) hE hb (by kernel_rfl) YT (by decide) (YT.ev h9) u1 u2 u3 u4 λa5 Xn d5=>?_;rw[bM,u5] at Xn;refine qI (d:=46) (t:=26) (x:=.tmp 45) hE hb (by kernel_rfl) Xn (by decide) (Xn.ev rfl) jE (λ_ h=>by cases h) (λ_ _ h=>by cases h) hw9 _ hc9 λa6 Y6 d6=>?_;refine Cr (d:=47) (t:=26) (x:=.tmp 46) hE hb (by kernel_rfl) Y6 (by decide) (Y6.ev rfl) ⟨_,jE⟩ λa7 YB d7=>?_;rw[show goInt N=de N from rfl] at YB;refine dA (d:=48) (x:=.const (.int .i64 0)) hE hb (by kernel_rfl) YB (by decide) (de 0) rfl λa8 hS8 d8=>?_;refine ao hE ?_;refine km hE 2 _ rfl (vK hE _ rfl ?_);refine Bd (Cl:=XB Tryz.prog link.tWg Wg c (qF b k cs l)) hb hl (λx y=>hCl x y) hw hN (λa' hS' XJ=>Bg hb hf hl hw hS' XJ) N 0 (by omega) a8 (hS8.sub λt u e=>?_) (d8.trans (d7.trans (d6.trans (d5.trans (d3.trans (d2.trans (d1.trans hd)))))));rw[au,au] at e;have h0:=hl.free;simp only[au];split at e;rename_i x;subst x;simpa using e;rename_i m1;split at e;rename_i x;subst x;simpa using e;rename_i m2;have n2:∀z,38<=z->¬(z=t):=λz hz x=>by rw[<-x,h0 z (.inl hz)] at e;cases e
 simp only[m1,m2,n2 46 (by decide),n2 45 (by decide),if_false];exact e
end
end Go.Proofs.YtgigkennhdolpaaGreatDoor
