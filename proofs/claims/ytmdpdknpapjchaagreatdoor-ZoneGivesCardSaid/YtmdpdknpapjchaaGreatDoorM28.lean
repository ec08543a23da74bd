/- slices.Insert of an entity. -/
import Derived.Test.YtmdpdknpapjchaaGreatDoorM27
set_option linter.all false
namespace Go.Proofs.YtmdpdknpapjchaaGreatDoor
set_option maxRecDepth 100000
section
open Go.Conc Go.RowKit
variable {l:LV}{ρ:Names}{N0 b bk ep i j k m n nm:Nat}{c e:XO}{H:aU}
def yn(j:Nat)(f:Nat->List SV)(c:List SV):Nat->List SV:=λx=>bif Nat.blt x j then f x else bif Nat.beq x j then c else f (x-1)
def rQ(l:LV)(bk N0:Nat):Names:=⟨λi=>bif Nat.beq i 1 then some bk else none,λi=>bif Nat.beq i 0 then some ⟨0,l.a,l.cap,N0⟩ else none,λ_ _=>none,λ_ _ _=>False,[],λ_=>False⟩
theorem KS(h:(rQ l bk N0).n i=some b):i=1∧b=bk:=by
 have h:(bif Nat.beq i 1 then some bk else none)=some b:=h;cases e:Nat.beq i 1 with
 | true=>rw[e] at h;exact⟨Nb e,(Oi h).symm⟩
 | false=>rw[e] at h;cases h
theorem KR{x:LV}(h:(rQ l bk N0).v i=some x):i=0∧x=⟨0,l.a,l.cap,N0⟩:=by
 have h:(bif Nat.beq i 0 then some (⟨0,l.a,l.cap,N0⟩:LV) else none)=some x:=h;cases e:Nat.beq i 0 with
 | true=>rw[e] at h;exact⟨Nb e,(Oi h).symm⟩
 | false=>rw[e] at h;cases h
theorem jf(h:bM (rQ l bk N0) i b):(i=1∧b=bk)∨(i=0∧l.cap≠0∧∃o,l.a=some ⟨b,o,none⟩):=by
 rcases h with h|⟨e,x,o,h1,h2,h3,h4⟩|⟨i',x,o,h,-⟩
 exact .inl (KS h);obtain⟨-,rfl⟩:=KR h1;exact .inr ⟨h2.symm,h3,o,h4⟩;cases h
theorem Fz{us:List Value}(h:au ρ e.cells us):∃r:Raw,us=r.gz:=by obtain⟨_,_,rfl,rfl,_,_,rfl,⟨a,cap,rfl,-⟩,rfl⟩:=h;exact⟨⟨_,a,_,cap⟩,rfl⟩
theorem Tu{us:List Value}(h:au ρ e.cells us):au ρ.zo e.cells us:=by obtain⟨_,_,rfl,rfl,_,_,rfl,⟨a,cap,rfl,h1,h2⟩,rfl⟩:=h;exact⟨_,_,rfl,rfl,_,_,rfl,⟨a,cap,rfl,h1,h2⟩,rfl⟩
set_option maxHeartbeats 1000000 in
theorem uk{W:World}{f:Nat->List SV}{u:List Value}{rc:Raw}{gr:Nat->Raw}(X':YH cx H ρ W)(Zz:ρ.v nm=none)(l1:ρ.v ep=some l)(l2:l.o=m)(hu:l.cap≠0->∃b,l.a=some ⟨b,0,none⟩∧Zq W b u.toArray 39∧∀i c,¬ρ.z b i c)(b1:ρ.n k=some bk)(b3:Zq W bk rc.gz.toArray 39)(hmk:m≠k)(hc:au ρ c.cells rc.gz)(hg:∀x,x<n->au ρ.zo (f x) (gr x).gz){W':World}{val:Value}{H':aU}{Yl:Nat}{XM:Names}{nn ee:Nat}{F:Nat->List SV}(hm:Mem cx W (rQ l bk N0).YE Yl XM W')(hb:∀n sb,look H' n=some sb->cS XM W' n sb)(hd:den XM (.g nn ee 2 0 (n+1)) val)(Ze:look H' 1=some (.lay rc.cells 39))(hkn:look H' nn=some (.lst ee 2 (n+1) F 39))(hnn:nn≠1)(hj:j<=n)(hF:∀x,x<n+1->F x=(qm j gr rc x).cells){ob:Option Prop} :
  eB cx ρ W nm ⟨ob,.g m nm 2 0 (n+1),some (m,.lst nm 2 (n+1) (yn j f c.cells) 39),true⟩ val W':=by
 obtain⟨L,d1,d2,d3,d4,a',rfl,d5⟩:=hd;obtain⟨L',c1,c2,c3,c4,c5⟩:=hb _ _ hkn;rw[d1] at c1;obtain rfl:=Oi c1;obtain⟨bk',vk',p1,p2,p3,p4,p5⟩:=hb _ _ Ze;have n1:XM.n 1=some bk:=hm.le.n 1 bk rfl;rw[n1] at p1;obtain rfl:=Oi p1;obtain rfl:=Raw.eq p2;have hLb:∀b o,L.cap≠0->L.a=some ⟨b,o,none⟩->bM XM nn b:=λb o h1 h2=>.inr (.inl ⟨ee,L,o,d1,d2,h1,h2⟩);have hOl:∀b,l.cap≠0->(∃o,l.a=some ⟨b,o,none⟩)->bM ρ m b:=λb h ⟨o,ho⟩=>.inr (.inl ⟨ep,l,o,l1,l2,h,ho⟩);have hnew:∀b o,L.cap≠0->L.a=some ⟨b,o,none⟩->(l.cap≠0∧∃o,l.a=some ⟨b,o,none⟩)∨W.heap.size<=b:=λb o h1 h2=>by
  rcases hm.old nn b (hLb b o h1 h2) with h|h
  ·rcases h with ⟨i,h⟩|h
   ·rcases jf (N0:=N0) h with ⟨-,rfl⟩|⟨-,h3,h4⟩
    exact P' (hm.hb.own nn 1 b (hLb b o h1 h2) (.inl n1)) hnn;exact .inl ⟨h3,h4⟩
   exact h.elim
  exact .inr h
 have Zg:∀x,jb (rQ l bk N0).YE x->x=bk∨(l.cap≠0∧∃o,l.a=some ⟨x,o,none⟩):=λx hx=>by
  rcases hx with ⟨i,h⟩|h
  ·rcases jf (N0:=N0) h with ⟨-,h⟩|⟨-,h3,h4⟩
   exact .inl h;exact .inr ⟨h3,h4⟩
  exact h.elim
 have hbk:W'.heap[bk]? = W.heap[bk]?:=(show W'.heap[bk]? = _ from p3).trans (show W.heap[bk]? = _ from b3).symm;have YN:∀x,x<W.heap.size->¬(l.cap≠0∧∃o,l.a=some ⟨x,o,none⟩)->W'.heap[x]? = W.heap[x]?:=λx hx YY=>by by_cases e:x=bk;rw[e];exact hbk;exact hm.keep.block x hx λh=>by rcases Zg x h with h|h;exact e h;exact YY h
 have hzb:∀b i c,ρ.z b i c->¬(l.cap≠0∧∃o,l.a=some ⟨b,o,none⟩):=λb i c hz ⟨h1,o,h2⟩=>by obtain⟨b',q1,-,q3⟩:=hu h1;rw[q1] at h2;obtain rfl:b'=b:=(by injection h2 with h2;injection h2);exact q3 i c hz
 let q:LV:=⟨m,L.a,L.cap,n+1⟩
 let Y1:Names:=⟨ρ.n,λe=>if e=nm then some q else ρ.v e,ρ.k,ρ.z,ρ.d,ρ.o⟩
 have v2:Y1.v nm=some q:=by simp[Y1]
 have v3:∀e x,Y1.v e=some x->(e=nm∧x=q)∨ρ.v e=some x:=λe x h=>by by_cases he:e=nm;simp only[Y1,Xl he] at h;exact .inl ⟨he,(Oi h).symm⟩;simp only[Y1,Xk he] at h;exact .inr h
 have hle:ρ.le Y1:=⟨λ_ _ h=>h,λe x h=>by have he:e≠nm:=λe'=>(by rw[e',Zz] at h;cases h);simp only[Y1,Xk he];exact h,λ_ _ _ h=>h,λ_ _ _ h=>h⟩
 have ow:∀i b,bM Y1 i b->bM ρ i b∨(i=m∧W.heap.size<=b∧L.cap≠0∧∃o,L.a=some ⟨b,o,none⟩):=λi b h=>by
  rcases h with h|⟨e,x,o,h1,h2,h3,h4⟩|h;exact .inl (.inl h)
  ·rcases v3 e x h1 with ⟨-,rfl⟩|h1
   ·rcases hnew b o h3 h4 with ⟨h5,h6⟩|h5
    exact .inl (h2▸hOl b h5 h6);exact .inr ⟨h2.symm,h5,h3,o,h4⟩
   exact .inl (.inr (.inl ⟨e,x,o,h1,h2,h3,h4⟩))
  exact .inl (.inr (.inr h))
 have hzk:∀b i c,ρ.z b i c->W'.cell? ⟨b,i,none⟩=some c∧c.oneCell'=true:=λb i c hz=>by have h0:=X'.hb.zok b i c hz;exact⟨(cell_of_heap (YN b (fU h0.1) (hzb b i c hz))).trans h0.1,h0.2⟩
 have hrow:∀x,x<n+1->au Y1.zo (yn j f c.cells x) (qm j gr rc x).gz:=λx hx=>by
  have key:au ρ.zo (yn j f c.cells x) (qm j gr rc x).gz:=by
   unfold yn qm;cases h1:Nat.blt x j with
   | true=>
    have:x<j:=(by rw[Nat.blt_eq] at h1;exact h1);exact hg x (by omega)
   | false=>
    have h1':j<=x:=(by rcases Nat.lt_or_ge x j with h|h;rw[<-Nat.blt_eq,h1] at h;cases h;exact h);cases h2:Nat.beq x j with
    | true=>exact Tu hc
    | false=>
     have:x≠j:=λe=>(by rw[e,Xv] at h2;cases h2);exact hg (x-1) (by omega)
  exact key
 refine⟨Y1,⟨hle,λ_ _ h=>.inl h,λe x h=>?_,λ_ _ _ h=>.inl h,λ_ _=>rfl,hm.keep.os,hm.keep.tape,hm.keep.output,hm.keep.size,λb hbs YY=>YN b hbs λ⟨h1,h2⟩=>YY m rfl (hOl b h1 h2),⟨λi i' b h h'=>?_,λi b h=>?_,hzk,hm.hb.grd⟩⟩,λi sb hsb=>?_,?_⟩
 ·rcases v3 e x h with ⟨rfl,rfl⟩|h
  ·refine .inr ⟨rfl,rfl,rfl,λb o h1 h2=>?_⟩;rcases hnew b o h2 h1 with ⟨h3,h4⟩|h3
   exact .inl (hOl b h3 h4);exact .inr h3
  exact .inl h
 ·rcases ow i b h with h1|⟨rfl,h1,-⟩
  ·rcases ow i' b h' with h2|⟨rfl,h2,-⟩
   exact X'.hb.own i i' b h1 h2;have:=(X'.hb.low i b h1).2;omega
  rcases ow i' b h' with h2|⟨rfl,h2,-⟩
  have:=(X'.hb.low i' b h2).2;omega;rfl
 ·rcases ow i b h with h1|⟨rfl,h1,h2,o,h3⟩
  exact⟨(X'.hb.low i b h1).1,Nat.lt_of_lt_of_le (X'.hb.low i b h1).2 hm.keep.size⟩;exact hm.hb.low nn b (hLb b o h2 h3)
 obtain⟨rfl,rfl⟩:=F7 (Oi hsb);refine⟨q,v2,rfl,rfl,by show n+1<=L.cap;omega,λYm=>?_⟩;obtain⟨b,u',k1,k2,k3,k4,k5,k6⟩:=c5 Ym;refine⟨b,u',k1,k2,k3,k4,λi c hz=>?_,λx hx=>⟨_,hrow x hx,rfl,λi c hi=>?_⟩⟩;rcases hnew b 0 Ym k1 with h|h;exact hzb b i c hz h;have:=fU (X'.hb.zok b i c hz).1;omega;obtain⟨us,q1,q2,q3⟩:=k6 x hx;rw[hF x hx] at q1;obtain rfl:=Raw.eq q1;exact q3 i c hi;exact⟨q,v2,rfl,by show 0+(n+1)<=n+1;omega,by show n+1<=L.cap;omega,a',rfl,d5⟩
set_option maxHeartbeats 1000000 in
theorem O5{W:World}{f:Nat->List SV}(X':YH cx H ρ W)(Zz:ρ.v nm=none)(hl:look H m=some (.lst ep 2 n f 39))(hk:look H k=some (.lay c.cells 39))(hf:∀x,x<n->∃e:XO,f x=e.cells)(hj:j<=n)(hn:n<=100000){vs:List Value}(hd:au ρ [.g m ep 2 0 n,.v (.int .i64 (j:Nat)),.s k 2 0 1 1] vs){ob:Option Prop} :
  bj Tryz.prog false 55 vs.toArray W λe' W'=>∃val,e'=.returned val∧eB cx ρ W nm ⟨ob,.g m nm 2 0 (n+1),some (m,.lst nm 2 (n+1) (yn j f c.cells) 39),true⟩ val W':=by
 obtain⟨v0,r0,rfl,⟨l,l1,l2,l3,l4,a',rfl,l5⟩,Zk⟩:=aF hd;obtain⟨v1,r1,rfl,rfl,ZN⟩:=aF Zk;obtain⟨v2,r2,rfl,⟨bk,b1,rfl⟩,hd3⟩:=aF ZN;obtain rfl:=bX hd3;obtain⟨l',k1,k2,k3,k4,k5⟩:=X'.blk m _ hl;rw[l1] at k1;obtain rfl:=Oi k1;obtain⟨bk',vk,c1,c2,c3,c4,c5⟩:=X'.blk k _ hk;rw[b1] at c1;obtain rfl:=Oi c1;obtain⟨rc,rfl⟩:=Fz c2;have hmk:m≠k:=λe=>by subst e;rw[hl] at hk;have:=Oi hk;cases this
 obtain⟨u,hu⟩:∃u:List Value,l.cap≠0->∃b,l.a=some ⟨b,0,none⟩∧Zq W b u.toArray 39∧u.length=l.cap*2∧(∀c∈u,c.oneCell'=true)∧(∀i c,¬ρ.z b i c)∧∀i,i<n->∃us,au ρ.zo (f i) us∧us.length=2∧∀k c,us[k]? = some c->u[i*2+k]? = some c:=by by_cases hc:l.cap=0;exact⟨[],λh=>P' hc h⟩;obtain⟨b,u,h1,h2,h3,h4,h5,h6⟩:=k5 hc;exact⟨u,λ_=>⟨b,h1,h2,h3,h4,h5,h6⟩⟩
 have hx:∀x,∃r:Raw,x<n->au ρ.zo (f x) r.gz∧∀i c,r.gz[i]? = some c->u[x*2+i]? = some c:=λx=>by by_cases h:x<n;obtain⟨b,-,-,-,-,-,h6⟩:=hu (by omega);obtain⟨us,q1,q2,q3⟩:=h6 x h;obtain⟨e,he⟩:=hf x h;obtain⟨r,rfl⟩:=Fz (he▸q1);exact⟨r,λ_=>⟨q1,q3⟩⟩;exact⟨⟨0,none,0,0⟩,λh'=>P' h' h⟩
 obtain⟨gr,hgr⟩:=Classical.axiomOfChoice hx;have hOl:∀b o,l.cap≠0->l.a=some ⟨b,o,none⟩->bM ρ m b:=λb o h ho=>.inr (.inl ⟨ep,l,o,l1,l2,h,ho⟩);have hok0:∀(N0:Nat) (F0:Nat->List SV),N0<=l.cap->(∀x,x<N0->∃us,au (rQ l bk N0).zo (F0 x) us∧us.length=2∧∀k c,us[k]? = some c->u[x*2+k]? = some c)->YH cx (j9 N0 F0 rc) (rQ l bk N0) W:=λN0 F0 hN hF=>by
  refine⟨⟨λi i' b h h'=>?_,λi b h=>?_,λb i c h=>h.elim,X'.hb.grd⟩,λi sb hi=>?_⟩
  ·rcases jf h with ⟨rfl,rfl⟩|⟨rfl,p1,o,p2⟩
   ·rcases jf h' with ⟨rfl,-⟩|⟨rfl,p1,o,p2⟩
    rfl;exact P' (X'.hb.own m k _ (hOl _ o p1 p2) (.inl b1)) hmk
   rcases jf h' with ⟨rfl,rfl⟩|⟨rfl,-⟩
   exact P' (X'.hb.own m k _ (hOl _ o p1 p2) (.inl b1)) hmk;rfl
  ·rcases jf h with ⟨rfl,rfl⟩|⟨rfl,p1,o,p2⟩
   exact X'.hb.low k _ (.inl b1);exact X'.hb.low m _ (hOl _ o p1 p2)
  unfold j9 at hi;by_cases e0:0=i;subst e0;rw[ai] at hi;obtain rfl:=Oi hi;refine⟨⟨0,l.a,l.cap,N0⟩,rfl,rfl,rfl,hN,λhc=>?_⟩;obtain⟨b,h1,h2,h3,h4,-⟩:=hu hc;exact⟨b,u,h1,h2,h3,h4,λ_ _ h=>h,hF⟩;rw[ah _ _ e0] at hi;by_cases e1:1=i;subst e1;rw[ai] at hi;obtain rfl:=Oi hi;exact⟨bk,rc.gz,rfl,Raw.den,c3,c4,λ_ _ h=>h⟩;rw[ah _ _ e1] at hi;cases hi
 have X5:∀N0 i b,(rQ l bk N0).n i=some b->i<2:=λN0 i b h=>by rw[(KS h).1];decide
 have XP:∀N0 e x,(rQ l bk N0).v e=some x->e<2∧x.o<2:=λN0 e x h=>by obtain⟨rfl,rfl⟩:=KR h;exact⟨(by decide),(by decide:0<2)⟩
 have XQ:∀N0 i j x,(rQ l bk N0).k i j=some x->i<2:=λN0 i j x h=>by cases h
 have XY:∀N0,n<=N0->N0<=l.cap->au (rQ l bk N0) [.g 0 0 2 0 n,.v (.int .i64 (j:Nat)),.s 1 2 0 1 1] [.slice a' n (l.cap-0),.int .i64 (j:Nat),.slice (some ⟨bk,0,none⟩) 1 1]:=λN0 h1 h2=>
  ⟨_,_,rfl,⟨⟨0,l.a,l.cap,N0⟩,rfl,rfl,by show 0+n<=N0;omega,h2,a',rfl,l5⟩,_,_,rfl,rfl,_,_,rfl,⟨bk,rfl,rfl⟩,rfl⟩
 have hrow:∀N0 x,x<n->∃us,au (rQ l bk N0).zo (gr x).cells us∧us.length=2∧∀k c,us[k]? = some c->u[x*2+k]? = some c:=λN0 x h=>⟨(gr x).gz,Raw.den,rfl,(hgr x h).2⟩
 have hu':l.cap≠0->∃b,l.a=some ⟨b,0,none⟩∧Zq W b u.toArray 39∧∀i c,¬ρ.z b i c:=λh=>by obtain⟨b,h1,h2,-,-,h5,-⟩:=hu h;exact⟨b,h1,h2,h5⟩
 have hg:∀x,x<n->au ρ.zo (f x) (gr x).gz:=λx h=>(hgr x h).1;have hnc:n<=l.cap:=by omega
 rcases Nat.lt_or_ge j n with hjn|hjn
 ·rcases Nat.lt_or_ge l.cap (n+1) with Ym|Ym;refine(C4 (q:=⟨0,l.a,l.cap,n⟩) (hok0 n (λx=>(gr x).cells) hnc λx h=>hrow n x h) (X5 n) (XP n) (XQ n) (λ_ h=>h) (XY n (F2 _) hnc) rfl Ym hjn hn).mono ?_;rintro e' W' ⟨v,val,H',Yl,XM,rfl,⟨rfl,p1,F,p2,p3⟩,hm,hb,hd⟩;exact⟨val,rfl,uk X' Zz l1 l2 hu' b1 c3 hmk c2 hg hm hb hd p1 p2 (by decide) hj p3⟩;obtain⟨b,-,-,hlen,-⟩:=hu (by omega);have hu0:u[n*2]? = some u[n*2]:=Xt (by omega);have hu1:u[n*2+1]? = some u[n*2+1]:=Xt (by omega);refine(C5 (q:=⟨0,l.a,l.cap,n+1⟩) (u:=u[n*2]) (v:=u[n*2+1]) (hok0 (n+1) (spF n gr u[n*2] u[n*2+1]) Ym λx h=>?_) (X5 _) (XP _) (XQ _) (λ_ h=>h) (XY (n+1) (by omega) Ym) rfl Ym hjn hn).mono ?_
  ·rcases Nat.lt_or_ge x n with h1|h1;rw[oh h1];exact hrow _ x h1;obtain rfl:x=n:=(by omega);refine⟨[u[x*2],u[x*2+1]],?_,rfl,λk c hk=>?_⟩
   ·unfold spF;have hb:Nat.blt x x=false:=by
     cases hb:Nat.blt x x with
     | false=>rfl
     | true=>rw[Nat.blt_eq] at hb;omega
    rw[hb];exact⟨_,_,rfl,rfl,_,_,rfl,rfl,rfl⟩
   ·match k,hk with
    | 0,hk=>obtain rfl:=Oi hk;exact hu0
    | 1,hk=>obtain rfl:=Oi hk;exact hu1
    | k+2,hk=>simp at hk
  rintro e' W' ⟨v,val,H',Yl,XM,rfl,⟨rfl,p1,F,p2,p3⟩,hm,hb,hd⟩;exact⟨val,rfl,uk X' Zz l1 l2 hu' b1 c3 hmk c2 hg hm hb hd p1 p2 (by decide) hj p3⟩
 obtain rfl:j=n:=by omega
 refine(C6 (hok0 j (λx=>(gr x).cells) hnc λx h=>hrow j x h) (X5 j) (XP j) (XQ j) (XY j (F2 _) hnc) hn).mono ?_;rintro e' W' ⟨v,val,H',Yl,XM,rfl,⟨rfl,p1,F,p2,p3⟩,hm,hb,hd⟩;exact⟨val,rfl,uk X' Zz l1 l2 hu' b1 c3 hmk c2 hg hm hb hd p1 p2 (by decide) hj p3⟩
def Vn(H:aU)(nm:Nat):List SV->Option DR
 | [.g m ep sz off n,.v (.int .i64 j),.s k Yb YW len cap]=>match look H m,look H k with
  | some (.lst ep' sz2 N f t),some (.lay c t')=>match Nat.beq ep ep',Nat.beq sz 2,Nat.beq sz2 2,Nat.beq off 0,Nat.beq Yb 2,Nat.beq YW 0,Nat.beq len 1,Nat.beq cap 1,Nat.beq t 39,Nat.beq t' 39 with
   | true,true,true,true,true,true,true,true,true,true=>some ⟨some (N=n∧0<=j∧j<=n∧n<=100000∧(∃e:XO,c=e.cells)∧∀x,x<n->∃e:XO,f x=e.cells),.g m nm 2 0 (n+1),some (m,.lst nm 2 (n+1) (yn j.toNat f c) 39),true⟩
   | _,_,_,_,_,_,_,_,_,_=>none
  | _,_=>none
 | _=>none
noncomputable def Mh:XR cx where
 f:=55
 en:=Tryz.call55
 ns:=de (fl:=hI.fl) Tryz.func55 (by kernel_rfl)
 run:=λ_=>none
 fresh:=false
 own:=none
 eff:=some Vn
 ok:=λze W args vs ob out hG hz hd hr ho=>by cases hr
 effOk:=λg hg ρ W H nm args vs r X' Zz hd hr ho=>by obtain rfl:=Oi hg;unfold Vn at hr;split at hr;rename_i m ep sz off n j k Yb YW len cap;split at hr;rename_i ep' sz2 N f t c t' hl hk;split at hr;rename_i e1 e2 e3 e4 e5 e6 e7 e8 e9 e10;obtain rfl:=Oi hr;obtain rfl:=Nb e1;obtain rfl:=Nb e2;obtain rfl:=Nb e3;obtain rfl:=Nb e4;obtain rfl:=Nb e5;obtain rfl:=Nb e6;obtain rfl:=Nb e7;obtain rfl:=Nb e8;obtain rfl:=Nb e9;obtain rfl:=Nb e10;obtain⟨rfl,h0,h1,h2,⟨e,rfl⟩,h3⟩:N=n∧0<=j∧j<=n∧n<=100000∧(∃e:XO,c=e.cells)∧∀x,x<n->∃e:XO,f x=e.cells:=ho;have hj:j=((j.toNat:Nat):Int):=(by omega);rw[hj] at hd;exact O5 X' (Zz rfl) hl hk h3 (by omega) h2 hd;cases hr;cases hr;cases hr
end
section
open Go.RowKit
variable {a d1:Int}{T:List Int}{N i j k m n x:Nat}{d f:Nat->Int}{g:Nat->XO}{α:Type}
def gV(j:Nat)(g:Nat->XO)(e:XO):Nat->XO:=λx=>bif Nat.blt x j then g x else bif Nat.beq x j then e else g (x-1)
theorem Mx(h:j<=x):Nat.blt x j=false:=by
 cases hb:Nat.blt x j with
 | false=>rfl
 | true=>rw[Nat.blt_eq] at hb;omega
theorem Qq(h:x<j):Nat.blt x j=true:=by rw[Nat.blt_eq];exact h
theorem TZ(h:x≠j):Nat.beq x j=false:=by
 cases hb:Nat.beq x j with
 | false=>rfl
 | true=>exact P' (Nb hb) h
theorem kF{e:XO}(h:x<j):gV j g e x=g x:=by unfold gV;rw[Qq h];rfl
theorem jA{e:XO} : gV j g e j=e:=by unfold gV;rw[Mx (F2 j),Xv];rfl
theorem iq{e:XO}(h:j<x):gV j g e x=g (x-1):=by unfold gV;rw[Mx (Nat.le_of_lt h),TZ (by omega)];rfl
theorem C3(j:Nat)(g:Nat->XO)(e:XO)(x:Nat):yn j (λi=>(g i).cells) e.cells x=(gV j g e x).cells:=by unfold yn gV;cases Nat.blt x j<;>cases Nat.beq x j<;>rfl
def XU.more(w:XU)(j:Nat)(e:XO):XU:=⟨w.tick,⟨w.l.n+1,gV j w.l.e e⟩⟩
def gw(w:XU)(e:XO):XU×Int:=match w.valid&&e.right with
 | false=>(XU.no,2)
 | true=>match (av w e.iD).2 with
  | true=>(XU.no,2)
  | false=>match decide ((64:Int)<=w.l.n) with
   | true=>(XU.no,4)
   | false=>(w.more (av w e.iD).1 e,0)
theorem yr{w:XU}{id:Int} : (av w id).1<=w.l.n:=by
 unfold av;cases w.valid with
 | false=>exact F9 _
 | true=>exact EU
set_option maxHeartbeats 2000000 in
theorem Nq:∀a,aD ((λa=>[a.1.l.Sm,a.2.l.Sm]) a)->aJ (C:=cx) [gl,mU,pA,oM,sN,Mh] [] 0 ⟨[],[],[],0⟩ Tryz.f25 ((aH cI eE).enc a) λv H _=>ae ((λa=>.tup [(gw a.1 a.2).1.sv,.v (.int .i64 (gw a.1 a.2).2)]) a) H v:=by
 intro⟨w,e⟩ ⟨hm,hs⟩;replace hm:w.l.Sm:=hm;replace hs:e.l.Sm:=hs;refine Ai ⟨(by repeat' first|exact trivial|exact rfl|apply Ai|intro),hm⟩ ?_;refine Ai (λ_=>⟨(by repeat' first|exact trivial|exact rfl|apply Ai|intro),hs⟩) ?_;refine Ai (λhv=>?_) (λhv=>?_)
 ·have hv:(!w.valid||!e.right)=true:=hv;have hv:(w.valid&&e.right)=false:=(by cases h1:w.valid<;>cases h2:e.right<;>simp[h1,h2] at hv ⊢);have ev:gw w e=(XU.no,2):=(by unfold gw;rw[hv]);simp only[ev];repeat' first|apply Ai|exact rfl|intro
 have hv:(!w.valid||!e.right)=false:=hv;obtain⟨hv1,ZL⟩:=Xp.1 hv;have hv1:w.valid=true:=by simpa using hv1
 have ZL:e.right=true:=by simpa using ZL
 have hw:=XU.cA.1 hv1;refine Ai ⟨(by repeat' first|exact trivial|exact rfl|apply Ai|intro),hm⟩ ?_;refine Ai (λhc=>?_) (λhc=>?_)
 ·have hc:(av w e.iD).2=true:=hc;have ev:gw w e=(XU.no,2):=(by unfold gw;rw[hv1,ZL];simp only[Bool.and_self,hc]);simp only[ev];repeat' first|apply Ai|exact rfl|intro
 have hc:(av w e.iD).2=false:=hc;refine Ai (λhd=>?_) (λhd=>?_)
 ·have hd:decide ((64:Int)<=w.l.n)=true:=hd;have ev:gw w e=(XU.no,4):=(by unfold gw;rw[hv1,ZL];simp only[Bool.and_self,hc,hd]);simp only[ev];repeat' first|apply Ai|exact rfl|intro
 have hd:decide ((64:Int)<=w.l.n)=false:=hd;have hd':=Xg hd;have ev:gw w e=(w.more (av w e.iD).1 e,0):=by unfold gw;rw[hv1,ZL];simp only[Bool.and_self,hc,hd]
 have hle:=yr (w:=w) (id:=e.iD);have c1:∀i,i<w.l.n->(w.l.e i).l.n<=1000:=λi hi=>by have:=(hw.right _ hi).len;omega
 have c2:w.l.n<=1000:=by omega
 have c3:e.l.n<=1000:=by have:=(XO.g7.1 ZL).len;omega
 refine Ai ⟨(by repeat' first|exact trivial|exact rfl|apply Ai|intro),c1,c2⟩ ?_;refine Ai ⟨(by repeat' first|exact trivial|exact rfl|apply Ai|intro),c3⟩ ?_;have q:w.l.n=w.l.n∧(0:Int)<=((av w e.iD).1:Nat)∧(((av w e.iD).1:Nat):Int)<=w.l.n∧w.l.n<=100000∧(∃e':XO,e.cells=e'.cells)∧∀x,x<w.l.n->∃e':XO,(w.l.e x).cells=e'.cells:=⟨rfl,by omega,by omega,by omega,⟨e,rfl⟩,λx _=>⟨w.l.e x,rfl⟩⟩
 refine Ai q ?_;simp only[ev];repeat' first|apply Ai|exact rfl|intro
 rename_i i hi;show aT (Yv 0 [] (gV (av w e.iD).1 w.l.e e i).cells (yn (((av w e.iD).1:Nat):Int).toNat (λi=>(w.l.e i).cells) e.cells (0+i)));rw[B',Int.toNat_natCast,C3];repeat' first|apply Ai|exact rfl|intro
def lu(n locals:Int)(i:Ins):Bool:=
 if i.op=1 then true
 else if i.op=2∨i.op=3 then decide (0<=i.a)&&decide (i.a<=locals-1)
 else if i.op=4∨i.op=5 then decide (1<=i.a)&&decide (i.a<=10)
 else if i.op=11∨i.op=12∨i.op=13 then decide (0<=i.a)&&decide (i.a<=n)
 else if i.op=9 then(decide (7<=i.a)&&decide (i.a<=20))||(decide (23<=i.a)&&decide (i.a<=24))
 else decide (1<=i.op)&&decide (i.op<=15)&&decide (i.a=0)
def ef(i:Ins)(at_:Int):Fam:=
 if i.op=11 then⟨1,λ_=>i.a⟩
 else if i.op=12∨i.op=13 then⟨2,λk=>bif Nat.beq k 0 then at_+1 else i.a⟩
 else if i.op=14∨i.op=15 then⟨0,λ_=>0⟩
 else⟨1,λ_=>at_+1⟩
def tkI(op:Int):Int:=[0,0,0,1,1,2,0,0,1,1,1,0,1,1,0,0].getD op.toNat 0
def Z7(op:Int):Int:=[0,1,1,0,1,0,1,1,1,1,1,0,0,0,0,0].getD op.toNat 0
def bU(i:Ins):Int:=if i.op=9∧10<=i.a then 2 else tkI i.op
def jZ(d:Nat->Int)(i:Nat)(v:Int):Nat->Int:=λj=>bif Nat.beq j i then v else d j
def inS(d1:Int)(f:Nat->Int):Nat->Nat->(Nat->Int)->List Int->Nat->Option ((Nat->Int)×List Int×Nat)
 | 0,_,d,T,n=>some (d,T,n)
 | m+1,j,d,T,n=>
  if d (f j).toNat=0 then inS d1 f m (j+1) (jZ d (f j).toNat d1) (T.take n++[f j]) (n+1)
  else if d (f j).toNat=d1 then inS d1 f m (j+1) d T n
  else none
def mi(p:Zx):Nat->(Nat->Int)->List Int->Nat->Bool
 | 0,_,_,_=>false
 | _+1,d,_,0=>decide (d p.code.n<=1)
 | k+1,d,T,n+1=>
  if T.getD n 0=p.code.n then mi p k d T n
  else if d (T.getD n 0).toNat-1<bU (p.code.e (T.getD n 0).toNat) then false
  else if 64<d (T.getD n 0).toNat-1+(Z7 (p.code.e (T.getD n 0).toNat).op-bU (p.code.e (T.getD n 0).toNat)) then false
  else match inS (d (T.getD n 0).toNat-1+(Z7 (p.code.e (T.getD n 0).toNat).op-bU (p.code.e (T.getD n 0).toNat))+1) (ef (p.code.e (T.getD n 0).toNat) (T.getD n 0)).g (ef (p.code.e (T.getD n 0).toNat) (T.getD n 0)).n 0 d T n with
   | none=>false
   | some (d',T',n')=>mi p k d' T' n'
def LM:Nat->Int:=jZ (λ_=>0) 0 1
def lX(p:Zx):Bool:=mi p (2*p.code.n+4) LM [0] 1
def ib(d:Nat->Int):Nat->Nat
 | 0=>0
 | m+1=>ib d m+if d m=0 then 1 else 0
theorem FR(d:Nat->Int):∀m,ib d m<=m
 | 0=>F2 0
 | m+1=>by have:=FR d m;unfold ib;split<;>omega
theorem Ef(d:Nat->Int)(i:Nat)(v:Int):jZ d i v i=v:=by unfold jZ;rw[show Nat.beq i i=true from Xv i];rfl
theorem xt(d:Nat->Int)(v:Int)(h:j≠i):jZ d i v j=d j:=by
 unfold jZ;cases hb:Nat.beq j i with
 | true=>exact P' (Nb hb) h
 | false=>rfl
theorem xi{d e:Nat->Int} : ∀{m:Nat},(∀j,j<m->d j=e j)->ib d m=ib e m
 | 0,_=>rfl
 | m+1,h=>by unfold ib;rw[xi λj hj=>h j (by omega),h m (by omega)]
theorem kL{d:Nat->Int}{i:Nat}{v:Int}(h0:d i=0)(hv:v≠0):∀{m:Nat},i<m->ib (jZ d i v) m+1=ib d m
 | 0,h=>P' h (F1 i)
 | m+1,h=>by unfold ib;rcases Xs (Nat.le_of_lt_succ h) with rfl|h1;rw[Ef,Xk hv,Xl h0,xi λj hj=>xt d v (by omega)];rw[xt d v (by omega:m≠i)];have:=kL h0 hv h1;omega
structure jX (N:Nat) (d:Nat->Int) (T:List Int) (n:Nat):Prop where
 d:∀j,j<=N->0<=d j∧d j<=65
 t:∀i,i<n->0<=T.getD i 0∧T.getD i 0<=N
 n:n<=T.length
theorem jX.pop(h:jX N d T (n+1)):jX N d T n:=⟨h.d,λi hi=>h.t i (by omega),by have:=h.n;omega⟩
theorem kI{x:Int}(hn:n<=T.length)(hi:i<n+1):(T.take n++[x]).getD i 0=bif Nat.ble n i then x else T.getD i 0:=by
 cases hb:Nat.ble n i with
 | true=>
  have:=F4 hb;obtain rfl:i=n:=(by omega);simp[List.getD_eq_getElem?_getD,Nat.min_eq_left hn]
 | false=>
  have h1:i<n:=(by rcases Nat.lt_or_ge i n with h|h;exact h;rw[Nat.ble_eq_true_of_le h] at hb;cases hb);simp[List.getD_eq_getElem?_getD,F5 (show i<(T.take n).length by simp;omega),List.getElem?_take,h1]
theorem jX.push{x v:Int}(h:jX N d T n)(hx:0<=x∧x<=N)(hv:0<=v∧v<=65):jX N (jZ d i v) (T.take n++[x]) (n+1):=by
 refine⟨λj hj=>?_,λj hj=>?_,?_⟩;rcases Nat.decEq j i with k|k;rw[xt d v k];exact h.d j hj;rw[k,Ef];exact hv
 ·rw[kI h.n hj];cases hb:Nat.ble n j with
  | true=>exact hx
  | false=>
   refine h.t j ?_;rcases Nat.lt_or_ge j n with k|k;exact k;rw[Nat.ble_eq_true_of_le k] at hb;cases hb
 have:=h.n;simp;omega
theorem sI(h:d (f j).toNat=0):inS d1 f (m+1) j d T n=inS d1 f m (j+1) (jZ d (f j).toNat d1) (T.take n++[f j]) (n+1):=by rw[inS,Xl h]
theorem sG(h:¬d (f j).toNat=0)(h1:d (f j).toNat=d1):inS d1 f (m+1) j d T n=inS d1 f m (j+1) d T n:=by rw[inS,Xk h,Xl h1]
theorem sJ(h:¬d (f j).toNat=0)(h1:¬d (f j).toNat=d1):inS d1 f (m+1) j d T n=none:=by rw[inS,Xk h,Xk h1]
theorem ER{locals:Int}{i:Ins}(hr:lu N locals i=true)(ha:0<=a∧a<N)(k:Nat):0<=(ef i a).g k∧(ef i a).g k<=N:=by
 unfold ef;unfold lu at hr;split;rename_i h;simp only[h] at hr;simpa using hr;split
 ·rename_i h;have:0<=i.a∧i.a<=N:=by rcases h with h|h<;>(simp only[h] at hr;simpa using hr)
  show 0<=(bif Nat.beq k 0 then a+1 else i.a)∧(bif Nat.beq k 0 then a+1 else i.a)<=N;cases Nat.beq k 0<;>simp only[cond_true,cond_false]<;>omega
 split;exact⟨Int.le_refl 0,by show (0:Int)<=N;omega⟩;exact⟨by show 0<=a+1;omega,by show a+1<=(N:Int);omega⟩
theorem Ki(i:Ins)(a:Int):(ef i a).n<=2:=by unfold ef;split;exact(by decide:1<=2);split;exact F2 2;split;exact(by decide:0<=2);exact(by decide:1<=2)
theorem getD_in{l:List Int}(h:∀x∈l,0<=x∧x<=a)(ha:0<=a)(n:Nat):0<=l.getD n 0∧l.getD n 0<=a:=by
 rw[List.getD_eq_getElem?_getD];cases hn:l[n]? with
 | none=>exact⟨Int.le_refl 0,ha⟩
 | some x=>exact h x (Xu hn)
theorem zi(i:Ins):0<=bU i∧bU i<=2:=by unfold bU;split;decide;exact getD_in (by decide) (by decide) _
theorem Gj(o:Int):0<=Z7 o∧Z7 o<=1:=getD_in (by decide) (by decide) _
def fP{α:Type}(f:Nat->α)(g:Nat->Bool):Nat->List α
 | 0=>[]
 | k+1=>match g k with|true=>fP f g k++[f k]|false=>fP f g k
section
variable {f:Nat->α}{g:Nat->Bool}
theorem qz:∀k,(fP f g k).length<=k
 | 0=>F2 _
 | k+1=>by have:=qz k;simp only[fP];split;simp;omega;omega
theorem jg(h:g k=true):fP f g (k+1)=fP f g k++[f k]:=by simp only[fP,h]
theorem mH(h:g k=false):fP f g (k+1)=fP f g k:=by simp only[fP,h]
theorem wV{x:α} : ∀k,x∈fP f g k↔∃i:Nat,i<k∧x=f i∧g i=true
 | 0=>by simp[fP]
 | k+1=>by have ih:=wV (x:=x) k;simp only[fP];split;rename_i h;rw[Xr,ih,List.mem_singleton];constructor;rintro(⟨i,h1,h2,h3⟩|rfl);exact⟨i,by omega,h2,h3⟩;exact⟨k,by omega,rfl,h⟩;rintro⟨i,h1,h2,h3⟩;by_cases e:i=k;subst e;exact .inr h2;exact .inl ⟨i,by omega,h2,h3⟩;rename_i h;rw[ih];constructor;rintro⟨i,h1,h2,h3⟩;exact⟨i,by omega,h2,h3⟩;rintro⟨i,h1,h2,h3⟩;refine⟨i,?_,h2,h3⟩;have:i≠k:=λe=>(by subst e;rw[h] at h3;cases h3);omega
theorem UP{d x:α}(l:List α)(i:Nat)(hi:i<l.length+1):(l++[x]).getD i d=bif Nat.ble l.length i then x else l.getD i d:=by simp only[List.getD_eq_getElem?_getD];rcases Nat.lt_or_ge i l.length with h1|h1;rw[F5 h1,show Nat.ble l.length i=false by cases hb:Nat.ble l.length i with|false=>rfl|true=>exact P' (F4 hb) (by omega)];rfl;rw[F6 h1,show i-l.length=0 by omega,show Nat.ble l.length i=true from Nat.ble_eq_true_of_le h1];rfl
end
theorem cW{β:Type}(f:α->β){b:Bool}{x y:α} : f (bif b then x else y)=bif b then f x else f y:=by cases b<;>rfl
def gT(b:Nat->Bool):Nat->Bool
 | 0=>true
 | k+1=>gT b k&&!b k
theorem nA{b:Nat->Bool}(h:gT b k=true)(hb:b k=false):gT b (k+1)=true:=by unfold gT;rw[h,hb];rfl
theorem nB{b:Nat->Bool}{k:Nat}(hb:b k=true):∀{n:Nat},k<n->gT b n=false
 | 0,h=>P' h (F1 k)
 | n+1,h=>by unfold gT;rcases Xs (Nat.le_of_lt_succ h) with rfl|h1;rw[hb];cases gT b k<;>rfl;rw[nB hb h1];rfl
theorem vm{b:Nat->Bool} : ∀{n:Nat},gT b n=true->∀k,k<n->b k=false
 | 0,_,k,h=>P' h (F1 k)
 | n+1,hn,k,h=>by unfold gT at hn;obtain⟨h1,h2⟩:=Bool.and_eq_true_iff.1 hn;rcases Xs (Nat.le_of_lt_succ h) with rfl|h3;simpa using h2;exact vm h1 k h3
def iL(e:Nat->Int):Nat->Int->Int
 | 0,_=>0
 | k+1,j=>bif decide (j=e k) then iL e k j+1 else iL e k j
def nF(e:Nat->Int):Nat->Int->Bool
 | 0,_=>false
 | k+1,j=>decide (j=e k)||nF e k j
theorem FT{e:Nat->Int}{j:Int} : ∀{k:Nat},nF e k j=false->iL e k j=0
 | 0,_=>rfl
 | k+1,h=>by unfold nF at h;obtain⟨h1,h2⟩:=Xp.1 h;unfold iL;rw[h1,cond_false,FT h2]
theorem FU{e:Nat->Int}{j:Int} : ∀{k:Nat},0<=iL e k j∧iL e k j<=k
 | 0=>⟨Int.le_refl 0,Int.le_refl 0⟩
 | k+1=>by have:=FU (e:=e) (j:=j) (k:=k);unfold iL;cases decide (j=e k)<;>simp only[cond_true,cond_false]<;>omega
def lZ.key(l:lZ)(k:Nat):Int:=PI (l.e k).name
def El(l:lZ)(k:Nat)(x:Int):Bool:=
 decide (1<x)||decide (((l.e k).name.size:Int)<1)||decide (24<((l.e k).name.size:Int))||decide (¬eS .andNot .u32 (l.e k).reads 2046=0)||decide (¬eS .andNot .u32 (l.e k).writes 1534=0)||decide ((l.e k).prog<0)||decide (16<=(l.e k).prog)
def pS(l:lZ)(k:Nat):Bool:=El l k (iL l.key (k+1) (l.key k))
theorem Bu{e:Nat->Int}{j:Int} : (bif decide (j=e k) then(bif nF e k (e k) then iL e k (e k) else 0)+1 else iL e k j)=iL e (k+1) j:=by
 show _=(bif decide (j=e k) then iL e k j+1 else iL e k j)
 cases hd:decide (j=e k) with
 | false=>rfl
 | true=>
  obtain rfl:=Od hd;simp only[cond_true];cases hh:nF e k (e k) with
  | true=>rfl
  | false=>rw[FT hh];rfl
theorem HP{e:Nat->Int} : (bif decide (e k=e k)||nF e k (e k) then(bif decide (e k=e k) then(bif nF e k (e k) then iL e k (e k) else 0)+1 else iL e k (e k)) else 0)=iL e (k+1) (e k):=by rw[Bu,Xj rfl];rfl
def oZ(l:lZ):Bool:=!decide ((16:Int)<l.n)&&gT (pS l) l.n
def isW(op:Int)(i:Ins):Bool:=decide (i.op=op)&&(decide (1<=i.a)&&decide (i.a<=31))
def gY(op:Int)(c:fG)(k:Nat):List Int:=fP (λi=>(c.e i).a) (λi=>isW op (c.e i)) k
def orM(F:Nat->Int):Nat->Int
 | 0=>0
 | k+1=>eS .or .u32 (orM F k) (IntKind.u32.wrap (1*2^(min (F k).toNat IntKind.u32.bits)))
def jy(op:Int)(c:fG):Int:=orM (λk=>(gY op c c.n).getD k 0) (gY op c c.n).length
def gJ(p:Zx)(k:Nat):Bool:=!lu p.code.n p.locals (p.code.e k)
def Cs(p:Zx):Bool:=decide ((4000:Int)<p.code.n)||decide (p.locals<0)||decide (32<p.locals)
def xA(p:Zx):Bool:=Cs p||!gT (gJ p) p.code.n||decide (¬jy 4 p.code=p.reads)||decide (¬jy 5 p.code=p.writes)
def th(p:Zx):Bool:=!xA p&&lX p
def p9(s:Z8)(k:Nat):Bool:=!th (s.progs.e k)
def tc(s:Z8)(k:Nat):Bool:=decide ((s.progs.n:Int)<=(s.systems.e k).prog)||(decide (¬eS .andNot .u32 (s.progs.e (s.systems.e k).prog.toNat).reads (eS .or .u32 (s.systems.e k).reads (s.systems.e k).writes)=0)||decide (¬eS .andNot .u32 (s.progs.e (s.systems.e k).prog.toNat).writes (s.systems.e k).writes=0))
def RO(s:Z8):Bool:=decide ((16:Int)<s.progs.n)||decide (s.fuel<0)||decide (10000<s.fuel)
def B8(s:Z8):Bool:=oZ s.systems&&(!RO s&&(gT (p9 s) s.progs.n&&gT (tc s) s.systems.n))
end
end Go.Proofs.YtmdpdknpapjchaaGreatDoor
