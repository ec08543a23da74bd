/- Company, 39: workers.Parallel. -/
import Derived.Test.YtmdpdknpapjchaaGreatDoorM38
import Derived.Test.YtmdpdknpapjchaaGreatDoorM39
import Derived.Test.YtmdpdknpapjchaaGreatDoorM40
import Derived.Conc.TokenWalk
set_option linter.all false
namespace Go.Proofs.YtmdpdknpapjchaaGreatDoor
noncomputable section
open Go.Conc Go.RowKit
open Go.Conc.Lib Go.ConcR.Gen Go.ConcN.Gen
open Go.ConcR (KK wgBlock WgAt stA smA rd wr mk DC0)
variable {a:Act}{cs:List Frame}{N i:Nat}
theorem YC.drop{n d:Nat}{l:List (Nat×Value)}{v:Value}(h:YC n a ((d,v)::l))(hd:look l d=none):YC n a l:=h.sub λt u e=>by rw[aA];by_cases x:d=t;subst x;rw[hd] at e;cases e;rw[Xk x];exact e
def pB:Code:=eK Tryz.f77
def p1:Code:=X3 pB
def p3:Code:=X3 p1
def p4:Code:=X3 p3
def p5:Code:=X3 p4
def p6:Code:=X3 p5
def p7:Code:=X3 p6
def p12:Code:=X3 p7
def p17:Code:=X3 p12
def p18:Code:=X3 p17
def p19:Code:=X3 p18
def pX1:Code:=lin (bin (X3 (X6 p7)))
def pX2:Code:=lin (bin (X3 (X6 p12)))
def o9:Array Oper:=Zj (X6 (bin (X6 (X3 (X3 pX1)))))
def o10:Array Oper:=Zj (X3 (bin (X6 (X3 (X3 pX1)))))
def o11:Array Oper:=Zj (X3 (X3 (X3 pX1)))
def o15:Array Oper:=Zj (X3 (bin (X6 (X3 (X3 pX2)))))
def o17:Array Oper:=Zj (X6 p17)
def o18:Array Oper:=Zj (X6 p18)
theorem UW:p7=.seq (.seq (.region 7 (Zj (X6 (X6 p7))) false) (.block 0 (.loop pX1))) p12:=by kernel_rfl
theorem Sp:p12=.seq (.seq (.region 12 (Zj (X6 (X6 p12))) false) (.block 2 (.loop pX2))) p17:=by kernel_rfl
theorem So:p17=.seq (.region 17 o17 false) p18:=by kernel_rfl
theorem Sn:p18=.seq (.region 18 o18 false) p19:=by kernel_rfl
theorem JY:pX1=.seq (.region 8 (Zj (X6 pX1)) false) (.seq (.cond (.tmp 41) .skip (.exit 0)) (.seq (.block 1 (.seq (.region 9 o9 false) (.region 10 o10 false))) (.region 11 o11 false))):=by kernel_rfl
theorem JX:pX2=.seq (.region 13 (Zj (X6 pX2)) false) (.seq (.cond (.tmp 49) .skip (.exit 2)) (.seq (.block 3 (.seq (.region 14 (Zj (X6 (bin (X6 (X3 (X3 pX2)))))) false) (.region 15 o15 false))) (.region 16 (Zj (X3 (X3 (X3 pX2)))) false))):=by kernel_rfl
def ptr(b:Nat):Value:=.pointer (some ⟨b,0,none⟩)
def dE(i:Nat):Value:=.int .i64 i
theorem Nw(h:i<9223372036854775807):IntKind.i64.wrap ((i:Int)+1)=((i+1:Nat):Int):=by
 have h1:Yd ((i:Int)+1):=by unfold Yd;omega
 rw[h1.wrap];omega
section
variable {c Wg XS:Nat}{fz:Nat×Nat}{b:Frame}{k:List Item}{l:List (Nat×Value)}{Cl:Goroutine->World->Prop}
theorem m7:Tryz.prog.underlying 176=some (.chan .both 3):=by kernel_rfl
def sends(i N:Nat):List Value:=(List.range' i (N-i)).map dE
theorem wh(N:Nat):sends N N=[]:=by simp[sends]
theorem tl(h:i<N):sends i N=dE i::sends (i+1) N:=by unfold sends;rw[show N-i=(N-(i+1))+1 by omega,List.range'_succ];rfl
structure QP (l:List (Nat×Value)) (XS Wg:Nat):Prop where
 free:∀t,38<=t∨t=13->look l t=none
 work:look l 11=some (ptr XS)
 all:look l 12=some (ptr Wg)
theorem pX{b:Frame}{k:List Item}{ops:Array Oper}{rest:List Nat}{o:Oper}(ho:ops[i]? = some o)(v:Value):Go.Conc.served (G (b.at a (.inRegion ops (i::rest)::k)) cs) v=G (b.at (a.put o.dst v) (.inRegion ops rest::k)) cs:=by
 have:(b.at a (.inRegion ops (i::rest)::k)).finish v=b.at (a.put o.dst v) (.inRegion ops rest::k):=by rw[Frame.finish_at,ho];rfl
 unfold Go.Conc.served;rw[<-this];rfl
set_option maxHeartbeats 1000000 in
theorem CR(hb:b.kind≠.early)(hl:QP l XS Wg)(hC:∀{g W W1},Cl g W->Rv W W1->Cl g W1){W:World}(hw:W.heap[XS]? = some (.cells #[.chan (some c)] 176 fz))(hN:N<9223372036854775807)
  (hcl:∀a',YC 62 a' l->a'.defers=[]->Gs Tryz.prog Cl (G (b.at a' (.code p17::k)) cs) W):∀(m i:Nat),i+m=N->∀a,YC 62 a ((48,dE i)::(47,dE N)::l)->a.defers=[]->Gs Tryz.prog (MP Tryz.prog c Cl (sends i N) false) (G (b.at a (.code pX2::.inLoop pX2::.inBlock 2::.code p17::k)) cs) W:=by
 intro m
 induction m with
 | zero=>
  intro i hi a hS hd;obtain rfl:i=N:=(by omega);have hE:=dq (P:=Tryz.prog) (Q:=MP Tryz.prog c Cl (sends i i) false) (λh r=>kC (Cl:=Cl) (λx y=>hC x y) h r);refine b7 hE _ _ JX ?_;refine aR hE _ _ 1 rfl (by kernel_rfl) ?_;refine wm (d:=49) (t:=3) (yt:=3) (x:=.tmp 48) (y:=.tmp 47) hE hb (by kernel_rfl) hS (by decide) (hS.ev rfl) (hS.ev rfl) λa1 Y6 d1=>?_;refine aw hE ?_;refine b7 hE _ _ rfl ?_;refine s_cond hE 49 _ _ rfl Y6 false (by rw[aA,Xl rfl];simp) ?_;refine s_exit hE 2 rfl (.code p17::k) rfl ?_;have Zu:YC 62 a1 l:=((Y6.drop (by rw[aA,Xk (by decide),aA,Xk (by decide)];exact hl.free 49 (by omega))).drop (by rw[aA,Xk (by decide)];exact hl.free 48 (by omega))).drop (hl.free 47 (by omega));rw[wh];exact(hcl a1 Zu (d1.trans hd)).mono λg W h=>⟨rfl,h⟩
 | succ m ih=>
  intro i hi a hS hd;have hE:=dq (P:=Tryz.prog) (Q:=MP Tryz.prog c Cl (sends i N) false) (λh r=>kC (Cl:=Cl) (λx y=>hC x y) h r);refine b7 hE _ _ JX ?_;refine aR hE _ _ 1 rfl (by kernel_rfl) ?_;refine wm (d:=49) (t:=3) (yt:=3) (x:=.tmp 48) (y:=.tmp 47) hE hb (by kernel_rfl) hS (by decide) (hS.ev rfl) (hS.ev rfl) λa1 Y6 d1=>?_;refine aw hE ?_;refine b7 hE _ _ rfl ?_;refine s_cond hE 49 _ _ rfl Y6 true (by rw[aA,Xl rfl];simp;omega) ?_;refine k9 hE rfl ?_;refine b7 hE _ _ rfl ?_;refine lf hE 3 _ rfl ?_;refine b7 hE _ _ rfl ?_;refine aR hE _ _ 2 rfl (by kernel_rfl) ?_;have Y6:YC 62 a1 ((48,dE i)::(47,dE N)::l):=Y6.drop (by rw[aA,Xk (by decide),aA,Xk (by decide)];exact hl.free 49 (by omega));refine dM (d:=50) (x:=.tmp 48) hE hb (by kernel_rfl) Y6 (by decide) (dE i) (Y6.ev rfl) λa2 Zu d2=>?_;refine fN (d:=13) (x:=.tmp 50) hE hb (by kernel_rfl) Zu (by decide) (dE i) (Zu.ev rfl) λa3 hS3 d3=>?_;refine aw hE ?_;refine aR hE _ _ 3 rfl (by kernel_rfl) ?_;have hw11:a3.eval (.tmp 11)=ptr XS:=hS3.ev (by rw[aA,Xk (by decide),aA,Xk (by decide),aA,Xk (by decide),aA,Xk (by decide)];exact hl.work);refine sa (d:=51) (t:=176) (x:=.tmp 11) hE hb (by kernel_rfl) hS3 (by decide) hw11 m7 (λ_ h=>by cases h) (λ_ _ h=>by cases h) hw (.chan (some c)) rfl λa4 hS4 d4=>?_;refine dM (d:=52) (x:=.tmp 13) hE hb (by kernel_rfl) hS4 (by decide) (dE i) (hS4.ev rfl) λa5 Z6 d5=>?_;have hO:Zl o15 2=some (none,.send (.tmp 51) (.tmp 52),none):=(by kernel_rfl);obtain⟨ty,pos,after,ho⟩:=dO hO;refine .stop ?_;rw[tl (by omega)];refine⟨_,_,.tuple #[],rfl,λmain w=>?_,?_⟩;refine(stepG_comm ho rfl hb (cases:=#[scase c (dE i) (.tuple #[])]) (blocking:=true) (shape:=.send) (w':=w) ?_).trans ?_;show Result.ok (Next.comm #[{chan:=a5.eval (.tmp 51),send:=some (a5.eval (.tmp 52)),zero:=.tuple #[]}] true .send) w=_;rw[Z6.ev rfl,Z6.ev rfl];rfl;rw[listed_none rfl];rw[pX ho];have hE:=dq (P:=Tryz.prog) (Q:=MP Tryz.prog c Cl (sends (i+1) N) false) (λh r=>kC (Cl:=Cl) (λx y=>hC x y) h r);refine aw hE (fJ hE ?_);refine aR hE _ _ 2 rfl (by kernel_rfl) ?_;have hS6:YC 62 a5 ((48,dE i)::(47,dE N)::l):=Z6.sub λt u e=>(by rw[aA,aA] at e;have h0:=hl.free;simp only[aA];split at e;rename_i x;subst x;simpa using e;split at e;rename_i x;subst x;simpa using e;have n1:¬(13=t):=λx=>(by rw[<-x,h0 13 (.inr rfl)] at e;cases e);have n2:∀z,38<=z->¬(z=t):=λz hz x=>(by rw[<-x,h0 z (.inl hz)] at e;cases e);simp only[n1,n2 52 (by decide),n2 51 (by decide),n2 50 (by decide),n2 48 (by decide),n2 47 (by decide),if_false];exact e);refine Jq (d:=53) (t:=3) (yt:=3) (x:=.tmp 48) (y:=.const (.int .i64 1)) hE hb (by kernel_rfl) hS6 (by decide) (hS6.ev rfl) rfl λa7 hS7 d7=>?_;rw[Nw (by omega)] at hS7;refine dM (d:=48) (x:=.tmp 53) hE hb (by kernel_rfl) hS7 (by decide) (dE (i+1)) (hS7.ev rfl) λa8 hS8 d8=>?_;refine aw hE (mN hE ?_);refine ih (i+1) (by omega) a8 (hS8.sub λt u e=>?_) (d8.trans (d7.trans (d5.trans (d4.trans (d3.trans (d2.trans (d1.trans hd)))))));rw[aA,aA] at e;have h0:=hl.free;simp only[aA];split at e;rename_i x;subst x;simpa using e;rename_i m1;split at e;rename_i x;subst x;simpa using e;have n2:∀z,38<=z->¬(z=t):=λz hz x=>(by rw[<-x,h0 z (.inl hz)] at e;cases e);simp only[m1,n2 53 (by decide),n2 48 (by decide),n2 47 (by decide),if_false];exact e
theorem uP{Q:Goroutine->Prop}{f1 f2:Frame}(h:Q (G f1 cs))(e:f2=f1):Q (G f2 cs):=e▸h
theorem IS.out{b₀:Frame}{a₀:Act}{ops₀:Array Oper}{i₀:Nat}{rest₀:List Nat}{k₀:List Item}{g:Goroutine}(h:IS b₀ a₀ ops₀ i₀ rest₀ k₀ cs g):g=G (b₀.at (a₀.put ((ops₀[i₀]?).bind (·.dst)) (.tuple #[])) (.inRegion ops₀ rest₀::k₀)) cs:=h
def rY(b:Frame)(k:List Item)(cs:List Frame)(l:List (Nat×Value))(g:Goroutine):Prop:=∃a',YC 62 a' l∧a'.defers=[]∧g=G (b.at a' (.inRegion o18 []::.code p19::k)) cs
set_option maxRecDepth 100000 in
theorem CV(hb:b.kind≠.early)(hf:b.fn=77)(hl:QP l XS Wg){W:World}(hw:W.heap[XS]? = some (.cells #[.chan (some c)] 176 fz))(hS:YC 62 a l)(hd:a.defers=[]) :
  Gs Tryz.prog (ClQ Tryz.prog link.tWg Wg c (rY b k cs l)) (G (b.at a (.code p17::k)) cs) W:=by
 have hE:=dq (P:=Tryz.prog) (Q:=ClQ Tryz.prog link.tWg Wg c (rY b k cs l)) (λ⟨x,y,g',z,u,v⟩ r=>⟨x,y,g',z,u,v.later (λh _=>h) r⟩);refine b7 hE _ _ So ?_;refine aR hE _ _ 2 rfl (by kernel_rfl) ?_;refine sa (d:=54) (t:=176) (x:=.tmp 11) hE hb (by kernel_rfl) hS (by decide) (hS.ev hl.work) m7 (λ_ h=>by cases h) (λ_ _ h=>by cases h) hw (.chan (some c)) rfl λa1 Y6 d1=>?_;have hO:Zl o17 1=some (none,.call ⟨.builtin .close,#[.tmp 54],#[176]⟩,none):=by kernel_rfl
 obtain⟨ty,pos,after,ho⟩:=dO hO;have hx:a1.eval (.tmp 54)=.chan (some c):=Y6.ev rfl;refine .stop ⟨rfl,?_,G (b.at a1 (.inRegion o17 []::.code p18::k)) cs,rfl,λw s r tm hc=>?_,?_⟩;unfold mayWake;simp only[G,Frame.at,ho];rfl;exact(stepG_close (P:=Tryz.prog) (main:=true) ho rfl hb rfl hx hc (by rw[hf];kernel_rfl)).trans rfl;have hE:=dq (P:=Tryz.prog) (Q:=λg _=>pJ Tryz.prog true link.tWg Wg (rY b k cs l) g) (λh _=>h);have Zu:YC 62 a1 l:=Y6.drop (hl.free 54 (by omega));refine aw hE ?_;refine b7 hE _ _ Sn ?_;refine aR hE _ _ 1 rfl (by kernel_rfl) ?_;have hO:Zl o18 0=some (some 55,.call ⟨.value (.func 98),#[.tmp 12],#[184]⟩,none):=by kernel_rfl
 obtain⟨ty,pos,after,ho⟩:=dO hO;refine FD hE hb ho rfl (f:=98) (args:=#[ptr Wg]) ?_ (λW1 _=>?_) (.stop ?_);exact pb (x:=.func 98) rfl rfl (λargs=>jL Tryz.func98 (by kernel_rfl) args);exact pq (x:=.func 98) rfl rfl Tryz.call98 (by simp[Zu.ev hl.all]);have hS3:∀v,YC 62 (a1.put (some 55) v) l:=λv=>(Zu.put (t:=55) (by decide) v).drop (hl.free 55 (by omega));refine uP (Q:=pJ Tryz.prog true link.tWg Wg (rY b k cs l)) (Gy (λg hg=>⟨_,hS3 (.tuple #[]),d1.trans hd,?_⟩) _ (Gx I2 (b₀:=b) (a₀:=a1) (ops₀:=o18) (i₀:=0) (rest₀:=[]) (k₀:=.code p19::k) (cs:=cs))) (by kernel_rfl);rw[hg.out,ho];rfl
def KF(k:List Item):List Item:=.code (.region 10 o10 false)::.inBlock 1::.code (.region 11 o11 false)::.inLoop pX1::.inBlock 0::.code p12::k
theorem pQ:∃fs f i,Tryz.prog.underlying 28=some (.struct fs)∧fs[1]? = some f∧Tryz.prog.info? f.type=some i∧i.size≠0∧f.offset=1:=by
 have h:mJ cx 28 1=some (1,⟨1,24,.sl 39,[.v (.slice none 0 0)],false⟩):=by rfl
 obtain⟨fs,f,i,d,e1,e2,e3,e4,e5,e6,e7⟩:=jh h;exact⟨fs,f,i,e1,e2,e4,by rw[e6];decide,e3⟩
theorem km:Tryz.prog.underlying 26=some (.slice 39):=by kernel_rfl
set_option maxHeartbeats 1000000 in
theorem yf(hb:b.kind≠.early)(hf:b.fn=77)(hl:QP l XS Wg){b9:Nat}(h9:look l 9=some (ptr b9)){W:World}{cs9:Array Value}{fz9:Nat×Nat}{sp:Option Addr}{cap:Nat}(hw9:W.heap[b9]? = some (.cells cs9 28 fz9))(hc9:cs9[1]? = some (.slice sp N cap))(hw:W.heap[XS]? = some (.cells #[.chan (some c)] 176 fz))(hN:N<9223372036854775807)(hS:YC 62 a ((40,dE 0)::(39,dE 1)::l))(hd:a.defers=[]) :
  Gs Tryz.prog (MP Tryz.prog c (ClQ Tryz.prog link.tWg Wg c (rY b k cs l)) (sends 0 N) false) (G (b.at a (.inRegion o10 []::.inBlock 1::.code (.region 11 o11 false)::.inLoop pX1::.inBlock 0::.code p12::k)) cs) W:=by
 have hCl:∀{g W W1},ClQ Tryz.prog link.tWg Wg c (rY b k cs l) g W->Rv W W1->ClQ Tryz.prog link.tWg Wg c (rY b k cs l) g W1:=λ⟨x,y,g',z,u,v⟩ r=>⟨x,y,g',z,u,v.later (λh _=>h) r⟩
 have hE:=dq (P:=Tryz.prog) (Q:=MP Tryz.prog c (ClQ Tryz.prog link.tWg Wg c (rY b k cs l)) (sends 0 N) false) (λh r=>kC (Cl:=ClQ Tryz.prog link.tWg Wg c (rY b k cs l)) (λx y=>hCl x y) h r);refine aw hE (fJ hE ?_);refine aR hE _ _ 2 rfl (by kernel_rfl) ?_;refine Jq (d:=44) (t:=3) (yt:=3) (x:=.tmp 40) (y:=.const (.int .i64 1)) hE hb (by kernel_rfl) hS (by decide) (hS.ev rfl) rfl λa1 Y6 d1=>?_;refine dM (d:=40) (x:=.tmp 44) hE hb (by kernel_rfl) Y6 (by decide) (dE 1) (Y6.ev rfl) λa2 Zu d2=>?_;refine aw hE (mN hE ?_);refine b7 hE _ _ JY ?_;refine aR hE _ _ 1 rfl (by kernel_rfl) ?_;refine wm (d:=41) (t:=3) (yt:=3) (x:=.tmp 40) (y:=.tmp 39) hE hb (by kernel_rfl) Zu (by decide) (Zu.ev rfl) (Zu.ev rfl) λa3 hS3 d3=>?_;refine aw hE ?_;refine b7 hE _ _ rfl ?_;refine s_cond hE 41 _ _ rfl hS3 false (by rw[aA,Xl rfl];rfl) ?_;refine s_exit hE 0 rfl (.code p12::k) rfl ?_;have hS4:YC 62 a3 l:=hS3.sub λt u e=>by have n2:∀z,38<=z->¬(z=t):=λz hz x=>(by rw[<-x,hl.free z (.inl hz)] at e;cases e);simp only[aA,n2 41 (by decide),n2 40 (by decide),n2 44 (by decide),n2 39 (by decide),if_false];exact e
 refine b7 hE _ _ Sp ?_;refine b7 hE _ _ rfl ?_;refine aR hE _ _ 4 rfl (by kernel_rfl) ?_;obtain⟨fs,f,inf,u1,u2,u3,u4,u5⟩:=pQ;refine NY (d:=45) (x:=.tmp 9) (kk:=1) hE hb (by kernel_rfl) hS4 (by decide) (hS4.ev h9) u1 u2 u3 u4 λa5 Z6 d5=>?_;rw[bO,u5] at Z6;refine sa (d:=46) (t:=26) (x:=.tmp 45) hE hb (by kernel_rfl) Z6 (by decide) (Z6.ev rfl) km (λ_ h=>by cases h) (λ_ _ h=>by cases h) hw9 _ hc9 λa6 hS6 d6=>?_;refine Ep (d:=47) (t:=26) (x:=.tmp 46) hE hb (by kernel_rfl) hS6 (by decide) (hS6.ev rfl) ⟨_,km⟩ λa7 hS7 d7=>?_;rw[show goInt N=dE N from rfl] at hS7;refine dM (d:=48) (x:=.const (.int .i64 0)) hE hb (by kernel_rfl) hS7 (by decide) (dE 0) rfl λa8 hS8 d8=>?_;refine aw hE ?_;refine lf hE 2 _ rfl (xE hE _ rfl ?_);refine CR (Cl:=ClQ Tryz.prog link.tWg Wg c (rY b k cs l)) hb hl (λx y=>hCl x y) hw hN (λa' hS' hd'=>CV hb hf hl hw hS' hd') N 0 (by omega) a8 (hS8.sub λt u e=>?_) (d8.trans (d7.trans (d6.trans (d5.trans (d3.trans (d2.trans (d1.trans hd)))))));rw[aA,aA] at e;have h0:=hl.free;simp only[aA];split at e;rename_i x;subst x;simpa using e;rename_i m1;split at e;rename_i x;subst x;simpa using e;rename_i m2;have n2:∀z,38<=z->¬(z=t):=λz hz x=>by rw[<-x,h0 z (.inl hz)] at e;cases e
 simp only[m1,m2,n2 46 (by decide),n2 45 (by decide),if_false];exact e
end
end
end Go.Proofs.YtmdpdknpapjchaaGreatDoor
