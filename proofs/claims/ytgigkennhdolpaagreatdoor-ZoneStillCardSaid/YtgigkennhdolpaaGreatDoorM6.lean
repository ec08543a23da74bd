/- A symbolic executor with lists, 6. -/
import Derived.Test.YtgigkennhdolpaaGreatDoorM5
namespace Go.Proofs.YtgigkennhdolpaaGreatDoor
open Go.RowKit
section
variable {PP:Program}{C:Cx PP}{op:ZN}{a:Act}{ρ:Names}{W W':World}{H:bc}{nm:Nat}
def Names.tU(ρ:Names)(n m:Nat):Names:=⟨λi=>if i=n then some m else ρ.n i,ρ.v,ρ.k,ρ.z,ρ.d,ρ.o⟩
def Names.gU(ρ:Names)(e:Nat)(l:LV):Names:=⟨ρ.n,λi=>if i=e then some l else ρ.v i,ρ.k,ρ.z,ρ.d,ρ.o⟩
def Names.km(ρ:Names)(z:Nat->Nat->Value->Prop):Names:=⟨ρ.n,ρ.v,ρ.k,λb i c=>ρ.z b i c∨z b i c,ρ.d,ρ.o⟩
theorem Names.Dw{n m:Nat}(h:ρ.n n=none):ρ.le (ρ.tU n m):=by refine⟨λi b hb=>?_,λ_ _ h=>h,λ_ _ _ h=>h,λ_ _ _ h=>h⟩;show (if i=n then some m else ρ.n i)=some b;rw[UC];exact hb;rintro rfl;rw[h] at hb;cases hb
theorem Names.jB{e:Nat}{l:LV}(h:ρ.v e=none):ρ.le (ρ.gU e l):=by refine⟨λ_ _ h=>h,λi b hb=>?_,λ_ _ _ h=>h,λ_ _ _ h=>h⟩;show (if i=e then some l else ρ.v i)=some b;rw[UC];exact hb;rintro rfl;rw[h] at hb;cases hb
theorem Names.bw{z:Nat->Nat->Value->Prop} : ρ.le (ρ.km z):=⟨λ_ _ h=>h,λ_ _ h=>h,λ_ _ _ h=>h,λ_ _ _ h=>.inl h⟩
theorem Names.gH{n m:Nat} : (ρ.tU n m).n n=some m:=by simp[Names.tU]
theorem Names.aX{e:Nat}{l:LV} : (ρ.gU e l).v e=some l:=by simp[Names.gU]
theorem pt{n m k b:Nat}(h:bY (ρ.tU n m) k b):bY ρ k b∨(k=n∧b=m):=by rcases h with h|⟨e,l,o,h1,h2,h3,h4⟩|h;by_cases hk:k=n;subst hk;rw[Names.gH] at h;exact .inr ⟨rfl,(Oi h).symm⟩;simp only[Names.tU,UC hk] at h;exact .inl (.inl h);exact .inl (.inr (.inl ⟨e,l,o,h1,h2,h3,h4⟩));exact .inl (.inr (.inr h))
theorem jX{e k b:Nat}{l:LV}(h:bY (ρ.gU e l) k b):bY ρ k b∨(k=l.o∧l.cap≠0∧∃o,l.a=some ⟨b,o,none⟩):=by rcases h with h|⟨e',l',o,h1,h2,h3,h4⟩|h;exact .inl (.inl h);by_cases he:e'=e;subst he;rw[Names.aX] at h1;obtain rfl:=Oi h1;exact .inr ⟨h2.symm,h3,o,h4⟩;simp only[Names.gU,UC he] at h1;exact .inl (.inr (.inl ⟨e',l',o,h1,h2,h3,h4⟩));exact .inl (.inr (.inr h))
theorem zH{m:Nat}(hb:HB C ρ W)(hf:ρ.n nm=none)(g:Gr W W')(hm:W.heap.size<=m)(hm':m<W'.heap.size):Xh C ρ W nm (some nm) true (ρ.tU nm m) W':=by
 refine⟨Names.Dw hf,λn b h=>?_,λ_ _ h=>.inl h,λ_ _ _ h=>.inl h,λ_ _=>rfl,g.os,g.tape,g.output,g.size,λb hb _=>Below.block g b hb,?_⟩;by_cases hn:n=nm;subst hn;rw[Names.gH] at h;obtain rfl:=Oi h;exact .inr ⟨rfl,rfl,rfl,hm⟩;simp only[Names.tU,UC hn] at h;exact .inl h;have h':=hb.gr g;refine⟨λn n' b h1 h2=>?_,λn b h=>?_,h'.zok,h'.grd⟩
 ·rcases pt h1 with h1|⟨h1,k1⟩<;>rcases pt h2 with h2|⟨h2,k2⟩
  exact hb.own n n' b h1 h2;have:=(hb.low n b h1).2;omega;have:=(hb.low n' b h2).2;omega;omega
 rcases pt h with h|⟨rfl,rfl⟩
 exact h'.low n b h;exact⟨Nat.le_trans hb.grd.1 hm,hm'⟩
theorem fT{l:LV}(hb:HB C ρ W)(hf:ρ.v nm=none)(g:Gr W W')(hm:l.cap≠0->∀b o,l.a=some ⟨b,o,none⟩->W.heap.size<=b∧b<W'.heap.size):Xh C ρ W nm (some l.o) true (ρ.gU nm l) W':=by
 refine⟨Names.jB hf,λ_ _ h=>.inl h,λe l' h=>?_,λ_ _ _ h=>.inl h,λ_ _=>rfl,g.os,g.tape,g.output,g.size,λb hb _=>Below.block g b hb,?_⟩;by_cases hn:e=nm;subst hn;rw[Names.aX] at h;obtain rfl:=Oi h;exact .inr ⟨rfl,rfl,rfl,λb o h1 h2=>.inr (hm h2 b o h1).1⟩;simp only[Names.gU,UC hn] at h;exact .inl h;have h':=hb.gr g;refine⟨λn n' b h1 h2=>?_,λn b h=>?_,h'.zok,h'.grd⟩
 ·rcases jX h1 with h1|⟨rfl,h1,o,h3⟩<;>rcases jX h2 with h2|⟨rfl,h2,o',h4⟩
  exact hb.own n n' b h1 h2;have:=(hb.low n b h1).2;have:=(hm h2 b o' h4).1;omega;have:=(hb.low n' b h2).2;have:=(hm h1 b o h3).1;omega;rfl
 rcases jX h with h|⟨rfl,h1,o,h3⟩
 exact h'.low n b h;exact⟨Nat.le_trans hb.grd.1 (hm h1 b o h3).1,(hm h1 b o h3).2⟩
theorem eQ{w:World}{g b:Nat}{cs:Array Value}(h:b≠g):(w.setRow g cs).heap[b]? = w.heap[b]?:=by simp[World.setRow,Array.getElem?_modify,Ne.symm h]
theorem setRow_size{w:World}{g:Nat}{cs:Array Value} : (w.setRow g cs).heap.size=w.heap.size:=by simp[World.setRow]
theorem HB.row{n b:Nat}{cs:Array Value}(hb:HB C ρ W)(ho:bY ρ n b)(hz:∀i c,¬ρ.z b i c):HB C ρ (W.setRow b cs):=by
 have hl:=hb.low n b ho;refine⟨hb.own,λn b h=>by rw[setRow_size];exact hb.low n b h,λb' i c h=>?_,hb.grd.keep (Nat.le_of_eq setRow_size.symm) λb' WE=>eQ (by omega)⟩;have U2:b'≠b:=by rintro rfl;exact hz i c h
 exact⟨(cell_of_heap (eQ U2)).trans (hb.zok b' i c h).1,(hb.zok b' i c h).2⟩
theorem mK{n b:Nat}{cs:Array Value}(hb:HB C ρ W)(ho:bY ρ n b)(hz:∀i c,¬ρ.z b i c):Xh C ρ W nm (some n) false ρ (W.setRow b cs):=
 ⟨.refl _,λ_ _ h=>.inl h,λ_ _ h=>.inl h,λ_ _ _ h=>.inl h,λ_ _=>rfl,rfl,rfl,rfl,Nat.le_of_eq setRow_size.symm,λb' _ hn=>eQ (by rintro rfl;exact hn n rfl ho),hb.row ho hz⟩
theorem zG{l:LV}{b o:Nat}{cs:Array Value}(hb:HB C ρ W)(hf:ρ.v nm=none)(ho:bY ρ l.o b)(hz:∀i c,¬ρ.z b i c)(hl:l.a=some ⟨b,o,none⟩):Xh C ρ W nm (some l.o) true (ρ.gU nm l) (W.setRow b cs):=by
 have e:=mK (nm:=nm) (cs:=cs) hb ho hz;refine⟨Names.jB hf,λ_ _ h=>.inl h,λe l' h=>?_,λ_ _ _ h=>.inl h,λ_ _=>rfl,e.os,e.tape,e.output,e.size,e.block,?_⟩;by_cases hn:e=nm;subst hn;rw[Names.aX] at h;obtain rfl:=Oi h;refine .inr ⟨rfl,rfl,rfl,λb' o' h1 h2=>?_⟩;rw[hl] at h1;injection h1 with h1;injection h1 with h1;rw[<-h1];exact .inl ho;simp only[Names.gU,UC hn] at h;exact .inl h;have key:∀k c,bY (ρ.gU nm l) k c->bY ρ k c:=λk c h=>by
  rcases jX h with h|⟨rfl,h1,o',h3⟩
  exact h;rw[hl] at h3;injection h3 with h3;injection h3 with h3;rw[<-h3];exact ho
 have h':=hb.row (cs:=cs) ho hz;exact⟨λn n' b h1 h2=>h'.own n n' b (key _ _ h1) (key _ _ h2),λn b h=>h'.low n b (key _ _ h),h'.zok,h'.grd⟩
theorem FO{l:LV}(hb:HB C ρ W)(hf:ρ.v nm=none)(ho:l.cap≠0->∀b o,l.a=some ⟨b,o,none⟩->bY ρ l.o b):Xh C ρ W nm (some l.o) true (ρ.gU nm l) W:=by
 refine⟨Names.jB hf,λ_ _ h=>.inl h,λe l' h=>?_,λ_ _ _ h=>.inl h,λ_ _=>rfl,rfl,rfl,rfl,I' _,λ_ _ _=>rfl,?_⟩;by_cases hn:e=nm;subst hn;rw[Names.aX] at h;obtain rfl:=Oi h;exact .inr ⟨rfl,rfl,rfl,λb' o' h1 h2=>.inl (ho h2 b' o' h1)⟩;simp only[Names.gU,UC hn] at h;exact .inl h;have key:∀k c,bY (ρ.gU nm l) k c->bY ρ k c:=λk c h=>by
  rcases jX h with h|⟨rfl,h1,o',h3⟩
  exact h;exact ho h1 c o' h3
 exact⟨λn n' b h1 h2=>hb.own n n' b (key _ _ h1) (key _ _ h2),λn b h=>hb.low n b (key _ _ h),hb.zok,hb.grd⟩
theorem w9{m:Nat}{l:List SV}{cs:List Value}{t:TypeId}(hb:HB C ρ W)(hf:ρ.n nm=none)(hm:W.heap.size<=m)(hd:ao ρ l cs)(h1:∀c∈cs,c.oneCell'=true)(hbl:Xi W' m cs.toArray t):c8 (ρ.tU nm m) W' nm (.lay l t):=
 ⟨m,cs,Names.gH,aJ (Names.Dw hf) _ _ hd,hbl,h1,λi c hz=>by have:=jI (hb.zok m i c hz).1;omega⟩
theorem sn{l:List SV}{cs:List Value}{t:TypeId}{v:SV}{y:Value}(hb:HB C ρ W)(hf:ρ.n nm=none)(hd:ao ρ l cs)(h1:∀c∈cs,c.oneCell'=true)(hy:den (ρ.tU nm W.heap.size) v y) :
  fX C ρ W nm ⟨none,v,some (nm,.lay l t),true⟩ y (W.alloc (.cells cs.toArray t)):=by
 have g:Gr W (W.alloc (.cells cs.toArray t)):=(Gr.refl W).alloc _;refine⟨ρ.tU nm W.heap.size,zH hb hf g (I' _) (by simp),λn sb h=>?_,hy⟩;obtain⟨rfl,rfl⟩:=P' (Oi h);exact w9 hb hf (I' _) hd h1 (Xi.new rfl)
mutual
theorem lP:∀(x:SV) (v:Value),lu x=true->den ρ x v->den ρ.zo x v
 | .v _,_,_,h=>h
 | .il _ _,_,_,h=>h
 | .bl _,_,_,h=>h
 | .f fn x y,v,hp,⟨u,w,h1,h2,h3⟩=>by simp only[lu] at hp;split at hp;rename_i hx;exact⟨u,w,cK x u hx h1,cK y w hp h2,h3⟩;cases hp
 | .agg l,v,hp,⟨u,h1,h2⟩=>⟨u,cK l u hp h1,h2⟩
 | .tup l,v,hp,⟨u,h1,h2⟩=>⟨u,cK l u hp h1,h2⟩
 | .e,_,_,h=>h
 | .rs _ _ _,_,_,h=>h
 | .rp _ _,_,_,h=>h
theorem cK:∀(x:List SV) (v:List Value),dq x=true->ao ρ x v->ao ρ.zo x v
 | [],_,_,h=>h
 | x::r,v,hp,⟨u,w,h1,h2,h3⟩=>by simp only[dq] at hp;split at hp;rename_i hx;exact⟨u,w,h1,lP x u hx h2,cK r w hp h3⟩;cases hp
end
mutual
theorem lX{US:Names} : ∀(x:SV) (v:Value),tc x=true->den ρ x v->den US x v
 | .v _,_,_,h=>h
 | .il _ _,_,_,h=>h
 | .bl _,_,_,h=>h
 | .f fn x y,v,hp,⟨u,w,h1,h2,h3⟩=>by simp only[tc] at hp;split at hp;rename_i hx;exact⟨u,w,eR x u hx h1,eR y w hp h2,h3⟩;cases hp
 | .agg l,v,hp,⟨u,h1,h2⟩=>⟨u,eR l u hp h1,h2⟩
 | .tup l,v,hp,⟨u,h1,h2⟩=>⟨u,eR l u hp h1,h2⟩
 | .e,_,_,h=>h
theorem eR{US:Names} : ∀(x:List SV) (v:List Value),gX x=true->ao ρ x v->ao US x v
 | [],_,_,h=>h
 | x::r,v,hp,⟨u,w,h1,h2,h3⟩=>by simp only[gX] at hp;split at hp;rename_i hx;exact⟨u,w,h1,lX x u hx h2,eR r w hp h3⟩;cases hp
end
def zW(W:World):Names:=aB λb i c=>W.cell? ⟨b,i,none⟩=some c∧c.oneCell'=true
def zR(ρ:Names)(W:World):Names:=aB λb i c=>W.cell? ⟨b,i,none⟩=some c∧c.oneCell'=true∧(ρ.z b i c∨∃n,bY ρ n b)
theorem qi(hb:HB C ρ W):ρ.zo.le (zR ρ W):=⟨λ_ _ h=>(by cases h),λ_ _ h=>(by cases h),λ_ _ _ h=>(by cases h),λb i c h=>⟨(hb.zok b i c h).1,(hb.zok b i c h).2,.inl h⟩⟩
theorem Hq:(zR ρ W).le (zW W):=⟨λ_ _ h=>(by cases h),λ_ _ h=>(by cases h),λ_ _ _ h=>(by cases h),λb i c h=>⟨h.1,h.2.1⟩⟩
theorem kh{l:List SV}{vs:List Value}(sz i:Nat)(h:ao ρ l vs):ao ρ (chunk l sz i) ((vs.drop (i*sz)).take sz):=di _ (bX _ h)
theorem mA{m e sz N off n:Nat}{h:Nat->List SV}{t:TypeId}(hH:VY C H ρ W)(hk:look H m=some (.lst e sz N h t)){v:Value}(hd:den ρ (.g m e sz off n) v) :
  ∃a' cap,v=.slice a' n cap∧n<=cap∧∀i,i<n->∃b o us,a'=some ⟨b,o,none⟩∧ao ρ.zo (h (off+i)) us∧us.length=sz∧(∀(k:Nat) (c:Value),us[k]? = some c->W.cell? ⟨b,o+i*sz+k,none⟩=some c∧c.oneCell'=true)∧bY ρ m b:=by
 obtain⟨l,h1,ho,h2,h3,a',rfl,h5⟩:=hd;refine⟨a',l.cap-off,rfl,by omega,λi hi=>?_⟩;obtain⟨b,k1,rfl⟩:=h5 (by omega);obtain⟨b',us,e1,e2,e3,e4,e5⟩:=wH (off:=0) (i:=off+i) hH hk ⟨l,b,h1,ho,by omega,h3,k1,rfl⟩;obtain rfl:b=b':=by injection e1 with e1;injection e1 with e1;injection e1
 refine⟨b,off*sz,us,rfl,e2,e3,λk c hc=>?_,e5⟩;rw[<-Nat.add_mul];exact e4 k c hc
theorem pA{m e sz N p Vk off n:Nat}{h:Nat->List SV}{g:Nat->Nat×(Nat->List SV)}{tk t:TypeId}(hH:VY C H ρ W)(hk:look H m=some (.nst e sz N h p Vk g tk t none)){v:Value}(hd:den ρ (.g m e sz off n) v) :
  ∃a' cap,v=.slice a' n cap∧n<=cap∧∀i,i<n->∃b o us q,a'=some ⟨b,o,none⟩∧ρ.k m (off+i)=some q∧q.N=(g (off+i)).1∧fF ρ W q Vk (g (off+i)).2 tk∧ao ρ.zo ((h (off+i)).set p (.v (.slice q.a q.N q.cap))) us∧us.length=sz∧(∀(k:Nat) (c:Value),us[k]? = some c->W.cell? ⟨b,o+i*sz+k,none⟩=some c∧c.oneCell'=true)∧bY ρ m b:=by
 obtain⟨l,h1,ho,h2,h3,a',rfl,h5⟩:=hd;refine⟨a',l.cap-off,rfl,by omega,λi hi=>?_⟩;obtain⟨b,k1,rfl⟩:=h5 (by omega);obtain⟨b',us,q,e1,f1,f2,f3,e2,e3,e4,e5⟩:=wo (off:=0) (i:=off+i) hH hk ⟨l,b,h1,ho,by omega,h3,k1,rfl⟩;obtain rfl:b=b':=by injection e1 with e1;injection e1 with e1;injection e1
 refine⟨b,off*sz,us,q,rfl,f1,f2,f3,e2,e3,λk c hc=>?_,e5⟩;rw[<-Nat.add_mul];exact e4 k c hc
theorem pH{m e sz N p Vk i off n:Nat}{h:Nat->List SV}{g:Nat->Nat×(Nat->List SV)}{tk t:TypeId}(hH:VY C H ρ W)(hk:look H m=some (.nst e sz N h p Vk g tk t none)){v:Value}(hd:den ρ (.kd m i Vk off n) v) :
  ∃a' cap,v=.slice a' n cap∧n<=cap∧∀j,j<n->∃b o us,a'=some ⟨b,o,none⟩∧ao ρ.zo ((g i).2 (off+j)) us∧us.length=Vk∧(∀(k:Nat) (c:Value),us[k]? = some c->W.cell? ⟨b,o+j*Vk+k,none⟩=some c∧c.oneCell'=true)∧bY ρ m b:=by
 obtain⟨l,h1,h2,h3,a',rfl,h5⟩:=hd;refine⟨a',l.cap-off,rfl,by omega,λj hj=>?_⟩;obtain⟨b,k1,rfl⟩:=h5 (by omega);obtain⟨b',us,e1,f1,f2,e2,e3,e4,e5⟩:=wL (off:=0) (j:=off+j) hH hk ⟨l,b,h1,by omega,h3,k1,rfl⟩;obtain rfl:b=b':=by injection e1 with e1;injection e1 with e1;injection e1
 refine⟨b,off*Vk,us,rfl,e2,e3,λk c hc=>?_,e5⟩;rw[<-Nat.add_mul];exact e4 k c hc
theorem Pa{Z:Nat->Nat->Value->Prop}{m i Vk n:Nat}{q:LV}{f f':Nat->List SV}{tk:TypeId}(h1:ρ.k m i=some q)(h2:q.N=n)(h3:fF ρ W q Vk f tk)
  (hZ:∀b i c,W.cell? ⟨b,i,none⟩=some c->c.oneCell'=true->bY ρ m b->Z b i c) (hf:∀j,j<n->∀us,ao ρ.zo (f j) us->ao (aB Z) (f' j) us):den (aB Z) (.rs Vk n f') (.slice q.a q.N q.cap):=by
 obtain⟨h3,h4⟩:=h3;refine⟨q.a,q.cap,by rw[h2],by omega,λj hj=>?_⟩;obtain⟨b,u,k1,k2,k3,k4,k5,k6⟩:=h4 (by omega);obtain⟨us,p1,p2,p3⟩:=k6 j (by omega);refine⟨b,0,us,k1,hf j hj us p1,p2,λk c hc=>?_⟩;have:=p3 k c hc;rw[B'];exact hZ b _ c (by rw[k2.cell];simpa using this) (k4 c (UM this)) (.inr (.inr ⟨i,q,0,h1,by omega,k1⟩))
theorem Un{Z:Nat->Nat->Value->Prop}{m Vk n:Nat}{q:LV}{f f':Nat->List SV}{tk:TypeId}(h1:∀b,q.cap≠0->q.a=some ⟨b,0,none⟩->bY ρ m b)(h2:q.N=n)(h3:fF ρ W q Vk f tk)
  (hZ:∀b i c,W.cell? ⟨b,i,none⟩=some c->c.oneCell'=true->bY ρ m b->Z b i c) (hf:∀j,j<n->∀us,ao ρ.zo (f j) us->ao (aB Z) (f' j) us):den (aB Z) (.rs Vk n f') (.slice q.a q.N q.cap):=by
 obtain⟨h3,h4⟩:=h3;refine⟨q.a,q.cap,by rw[h2],by omega,λj hj=>?_⟩;obtain⟨b,u,k1,k2,k3,k4,k5,k6⟩:=h4 (by omega);obtain⟨us,p1,p2,p3⟩:=k6 j (by omega);refine⟨b,0,us,k1,hf j hj us p1,p2,λk c hc=>?_⟩;have:=p3 k c hc;rw[B'];exact hZ b _ c (by rw[k2.cell];simpa using this) (k4 c (UM this)) (h1 b (by omega) k1)
theorem wq{Z:Nat->Nat->Value->Prop}{m p Vk i:Nat}{q:LV}{h:Nat->List SV}{g:Nat->Nat×(Nat->List SV)}{tk:TypeId}{us:List Value}(h1:ρ.k m i=some q)(h2:q.N=(g i).1)(h3:fF ρ W q Vk (g i).2 tk)
  (hZ:∀b i c,W.cell? ⟨b,i,none⟩=some c->c.oneCell'=true->bY ρ m b->Z b i c) (hle:ρ.zo.le (aB Z)) (hd:ao ρ.zo ((h i).set p (.v (.slice q.a q.N q.cap))) us):ao (aB Z) (Fe h p Vk g i) us:=
 pU (p:=0) (λv hv=>by obtain rfl:v=_:=hv;exact Pa h1 h2 h3 hZ λj _ us hu=>aJ hle _ _ hu) (aJ hle _ _ hd)
mutual
theorem Qx{rec:List SV->Option (List SV)}(hH:VY C H ρ W)(V5:∀l l' vs,rec l=some l'->ao ρ l vs->ao (zR ρ W) l' vs):∀(x x':SV) (v:Value),fzS rec H x=some x'->den ρ x v->den (zR ρ W) x' v
 | .v _,_,_,hx,h=>by obtain rfl:=Oi hx;exact h
 | .il _ _,_,_,hx,h=>by obtain rfl:=Oi hx;exact h
 | .bl _,_,_,hx,h=>by obtain rfl:=Oi hx;exact h
 | .e,_,_,hx,h=>by obtain rfl:=Oi hx;exact h
 | .rs sz n f,_,v,hx,h=>by obtain rfl:=Oi hx;exact bM (qi hH.hb) _ _ (lP _ _ rfl h)
 | .rp x off,_,v,hx,h=>by obtain rfl:=Oi hx;exact bM (qi hH.hb) _ _ (lP _ _ rfl h)
 | .p n off,x',v,hx,h=>by simp only[fzS] at hx;split at hx;rename_i cs t hl;split at hx;rename_i l hr;obtain rfl:=Oi hx;obtain⟨b,e1,e2⟩:=h;obtain⟨b',vs,k1,k2,k3,k4,k5⟩:=hH.blk n _ hl;rw[e1] at k1;obtain rfl:=Oi k1;refine⟨b,0,vs,by rw[B'];exact e2,V5 _ _ _ hr k2,λk c hc=>⟨?_,k4 c (UM hc),.inr ⟨n,.inl e1⟩⟩⟩;rw[B',k3.cell];simpa using hc;cases hx;cases hx
 | .s n sz off len cap,x',v,hx,h=>by simp only[fzS] at hx;split at hx;rename_i cs t hl;split at hx;rename_i l hr;split at hx;rename_i b1 b2;have b1:=L' b1;have b2:=L' b2;obtain rfl:=Oi hx;obtain⟨b,e1,e2⟩:=h;obtain⟨b',vs,k1,k2,k3,k4,k5⟩:=hH.blk n _ hl;rw[e1] at k1;obtain rfl:=Oi k1;have hd:=V5 _ _ _ hr k2;have hlen:=aF hd;refine⟨_,_,e2,b2,λi hi=>⟨b,off,_,rfl,kh sz i (bX off hd),?_,λk c hc=>?_⟩⟩;have:i*sz+sz<=len*sz:=(by rw[<-Nat.succ_mul];exact UG _ hi);simp only[List.length_take,List.length_drop];omega;rw[List.getElem?_take] at hc;split at hc;rw[List.getElem?_drop,List.getElem?_drop] at hc;refine⟨?_,k4 c (UM hc),.inr ⟨n,.inl e1⟩⟩;rw[k3.cell];simpa[Nat.add_assoc] using hc;cases hc;cases hx;cases hx;cases hx
 | .g m e sz off n,x',v,hx,h=>by simp only[fzS] at hx;split at hx;rename_i e' Vi N hh t hl;split at hx;rename_i b1 b2;have b1:=Nb b1;have b2:=Nb b2;subst b1 b2;obtain rfl:=Oi hx;obtain⟨a',cap,e1,e2,e3⟩:=mA hH hl h;exact⟨a',cap,e1,e2,λi hi=>let ⟨b,o,us,k1,k2,k3,k4,k5⟩:=e3 i hi;⟨b,o,us,k1,aJ (qi hH.hb) _ _ k2,k3,λk c hc=>⟨(k4 k c hc).1,(k4 k c hc).2,.inr ⟨_,k5⟩⟩⟩⟩;cases hx;rename_i e' Vi N hh p Vk g tk t hl;split at hx;rename_i b1 b2;have b1:=Nb b1;have b2:=Nb b2;subst b1 b2;obtain rfl:=Oi hx;obtain⟨a',cap,e1,e2,e3⟩:=pA hH hl h;exact⟨a',cap,e1,e2,λi hi=>let ⟨b,o,us,q,k1,f1,f2,f3,k2,k3,k4,k5⟩:=e3 i hi;⟨b,o,us,k1,wq f1 f2 f3 (λb i c h1 h2 h3=>⟨h1,h2,.inr ⟨_,h3⟩⟩) (qi hH.hb) k2,k3,λk c hc=>⟨(k4 k c hc).1,(k4 k c hc).2,.inr ⟨_,k5⟩⟩⟩⟩;cases hx;cases hx
 | .gp m e sz i off,x',v,hx,h=>by simp only[fzS] at hx;split at hx;rename_i e' Vi N hh t hl;split at hx;rename_i b1 b2;have b1:=Nb b1;have b2:=Nb b2;subst b1 b2;obtain rfl:=Oi hx;obtain⟨b,us,e1,e2,e3,e4,e5⟩:=wH hH hl h;exact⟨b,i*sz,us,e1,aJ (qi hH.hb) _ _ e2,λk c hc=>⟨(e4 k c hc).1,(e4 k c hc).2,.inr ⟨_,e5⟩⟩⟩;cases hx;rename_i e' Vi N hh p Vk g tk t hl;split at hx;rename_i b1 b2;have b1:=Nb b1;have b2:=Nb b2;subst b1 b2;obtain rfl:=Oi hx;obtain⟨b,us,q,e1,f1,f2,f3,e2,e3,e4,e5⟩:=wo hH hl h;exact⟨b,i*sz,us,e1,wq f1 f2 f3 (λb i c h1 h2 h3=>⟨h1,h2,.inr ⟨_,h3⟩⟩) (qi hH.hb) e2,λk c hc=>⟨(e4 k c hc).1,(e4 k c hc).2,.inr ⟨_,e5⟩⟩⟩;cases hx;cases hx
 | .kd m i sz off n,x',v,hx,h=>by simp only[fzS] at hx;split at hx;rename_i e esz N hh p g tk t hl;obtain rfl:=Oi hx;obtain⟨a',cap,e1,e2,e3⟩:=pH hH (oz hl) h;exact⟨a',cap,e1,e2,λi hi=>let ⟨b,o,us,k1,k2,k3,k4,k5⟩:=e3 i hi;⟨b,o,us,k1,aJ (qi hH.hb) _ _ k2,k3,λk c hc=>⟨(k4 k c hc).1,(k4 k c hc).2,.inr ⟨_,k5⟩⟩⟩⟩;cases hx
 | .kq m i sz j off,x',v,hx,h=>by simp only[fzS] at hx;split at hx;rename_i e esz N hh p g tk t hl;obtain rfl:=Oi hx;obtain⟨b,us,e1,f1,f2,e2,e3,e4,e5⟩:=wL hH (oz hl) h;exact⟨b,j*sz,us,e1,aJ (qi hH.hb) _ _ e2,λk c hc=>⟨(e4 k c hc).1,(e4 k c hc).2,.inr ⟨_,e5⟩⟩⟩;cases hx
 | .f fn x y,x',v,hx,⟨u,w,h1,h2,h3⟩=>by simp only[fzS] at hx;split at hx;rename_i p q hp hq;obtain rfl:=Oi hx;exact⟨u,w,nK hH V5 x p u hp h1,nK hH V5 y q w hq h2,h3⟩;cases hx
 | .m _,_,_,hx,_=>by cases hx
 | .agg l,x',v,hx,⟨u,h1,h2⟩=>by simp only[fzS] at hx;split at hx;rename_i p hp;obtain rfl:=Oi hx;exact⟨u,nK hH V5 l p u hp h1,h2⟩;cases hx
 | .tup l,x',v,hx,⟨u,h1,h2⟩=>by simp only[fzS] at hx;split at hx;rename_i p hp;obtain rfl:=Oi hx;exact⟨u,nK hH V5 l p u hp h1,h2⟩;cases hx
theorem nK{rec:List SV->Option (List SV)}(hH:VY C H ρ W)(V5:∀l l' vs,rec l=some l'->ao ρ l vs->ao (zR ρ W) l' vs):∀(x x':List SV) (v:List Value),fzL rec H x=some x'->ao ρ x v->ao (zR ρ W) x' v
 | [],_,_,hx,h=>by obtain rfl:=Oi hx;exact h
 | x::r,x',v,hx,⟨u,w,h1,h2,h3⟩=>by simp only[fzL] at hx;split at hx;rename_i p q hp hq;obtain rfl:=Oi hx;exact⟨u,w,h1,Qx hH V5 x p u hp h2,nK hH V5 r q w hq h3⟩;cases hx
end
theorem sX(hH:VY C H ρ W):∀(k:Nat) (l l':List SV) (vs:List Value),fzK H k l=some l'->ao ρ l vs->ao (zR ρ W) l' vs
 | 0,l,l',vs,h,hd=>nK hH (λ_ _ _ h _=>by cases h) l l' vs h hd
 | k+1,l,l',vs,h,hd=>nK hH (λl l' vs h hd=>sX hH k l l' vs h hd) l l' vs h hd
theorem y7{US:Names}{x y:SV}(hxy:∀v,den ρ x v->den US y v):∀{l:List SV} {i:Nat} {us:List Value},gX (l.set i .e)=true->ao ρ (l.set i x) us->ao US (l.set i y) us
 | [],i,us,_,h=>h
 | z::r,0,us,hf,h=>by obtain⟨a,b,e,h1,h2⟩:=aN h;simp only[List.set_cons_zero,gX,tc] at hf;exact⟨a,b,e,hxy _ h1,eR _ _ hf h2⟩
 | z::r,i+1,us,hf,h=>by obtain⟨a,b,e,h1,h2⟩:=aN h;simp only[List.set_cons_succ,gX] at hf;split at hf;rename_i hz;exact⟨a,b,e,lX _ _ hz h1,y7 hxy hf h2⟩;cases hf
def zO(ρ:Names)(W:World):Names:=aB λb i c=>W.cell? ⟨b,i,none⟩=some c∧c.oneCell'=true∧∃n,bY ρ n b
mutual
theorem JD(hH:VY C H ρ W):∀(x x':SV) (ps:List Prop) (v:Value),frS H x=some (x',ps)->aA ps->den ρ x v->den (zO ρ W) x' v
 | .v _,_,_,_,hx,_,h=>by obtain⟨rfl,-⟩:=P' (Oi hx);exact h
 | .il _ _,_,_,_,hx,_,h=>by obtain⟨rfl,-⟩:=P' (Oi hx);exact h
 | .bl _,_,_,_,hx,_,h=>by obtain⟨rfl,-⟩:=P' (Oi hx);exact h
 | .e,_,_,_,hx,_,h=>by obtain⟨rfl,-⟩:=P' (Oi hx);exact h
 | .rs sz n f,_,_,v,hx,_,h=>by cases hx
 | .rp x off,_,_,v,hx,_,h=>by cases hx
 | .p n off,x',_,v,hx,_,h=>by cases hx
 | .gp m e sz i off,x',_,v,hx,_,h=>by cases hx
 | .f fn x y,x',_,v,hx,_,_=>by cases hx
 | .m _,_,_,_,hx,_,_=>by cases hx
 | .kd _ _ _ _ _,_,_,_,hx,_,_=>by cases hx
 | .kq _ _ _ _ _,_,_,_,hx,_,_=>by cases hx
 | .s n sz off len cap,x',ps,v,hx,_,h=>by simp only[frS] at hx;split at hx;rename_i cs t hl;split at hx;rename_i b1 b2 b3;have b1:=L' b1;have b2:=L' b2;obtain⟨rfl,-⟩:=P' (Oi hx);obtain⟨b,e1,e2⟩:=h;obtain⟨b',vs,k1,k2,k3,k4,k5⟩:=hH.blk n _ hl;rw[e1] at k1;obtain rfl:=Oi k1;have hd:ao (zO ρ W).zo cs vs:=eR _ _ b3 k2;have hlen:=aF hd;refine⟨_,_,e2,b2,λi hi=>⟨b,off,_,rfl,kh sz i (bX off hd),?_,λk c hc=>?_⟩⟩;have:i*sz+sz<=len*sz:=(by rw[<-Nat.succ_mul];exact UG _ hi);simp only[List.length_take,List.length_drop];omega;rw[List.getElem?_take] at hc;split at hc;rw[List.getElem?_drop,List.getElem?_drop] at hc;refine⟨?_,k4 c (UM hc),n,.inl e1⟩;rw[k3.cell];simpa[Nat.add_assoc] using hc;cases hc;cases hx;cases hx
 | .g m e sz off n,x',ps,v,hx,hp,h=>by simp only[frS] at hx;split at hx;rename_i e' Vi N hh t hl;split at hx;rename_i b1 b2;have b1:=Nb b1;have b2:=Nb b2;subst b1 b2;obtain⟨rfl,rfl⟩:=P' (Oi hx);have hp:∀i,i<n->gX (hh (off+i))=true:=hp;obtain⟨a',cap,e1,e2,e3⟩:=mA hH hl h;exact⟨a',cap,e1,e2,λi hi=>let ⟨b,o,us,k1,k2,k3,k4,k5⟩:=e3 i hi;⟨b,o,us,k1,eR _ _ (hp i hi) k2,k3,λk c hc=>⟨(k4 k c hc).1,(k4 k c hc).2,_,k5⟩⟩⟩;cases hx;rename_i e' Vi N hh p Vk g tk t hl;split at hx;rename_i b1 b2;have b1:=Nb b1;have b2:=Nb b2;subst b1 b2;obtain⟨rfl,rfl⟩:=P' (Oi hx);obtain⟨hp1,hp2⟩:(∀i,i<n->gX ((hh (off+i)).set p .e)=true)∧∀i,i<n->∀j,j<(g (off+i)).1->gX ((g (off+i)).2 j)=true:=hp;obtain⟨a',cap,e1,e2,e3⟩:=pA hH hl h;exact⟨a',cap,e1,e2,λi hi=>let ⟨b,o,us,q,k1,f1,f2,f3,k2,k3,k4,k5⟩:=e3 i hi;⟨b,o,us,k1,y7 (λv hv=>by obtain rfl:v=_:=hv;exact Pa f1 f2 f3 (λb i c h1 h2 h3=>⟨h1,h2,_,h3⟩) λj hj us hu=>eR _ _ (hp2 i hi j hj) hu) (hp1 i hi) k2,k3,λk c hc=>⟨(k4 k c hc).1,(k4 k c hc).2,_,k5⟩⟩⟩;cases hx;cases hx
 | .agg l,x',ps,v,hx,hp,⟨u,h1,h2⟩=>by simp only[frS] at hx;split at hx;rename_i p ps' hq;obtain⟨rfl,rfl⟩:=P' (Oi hx);exact⟨u,BJ hH l p _ u hq hp h1,h2⟩;cases hx
 | .tup l,x',ps,v,hx,hp,⟨u,h1,h2⟩=>by simp only[frS] at hx;split at hx;rename_i p ps' hq;obtain⟨rfl,rfl⟩:=P' (Oi hx);exact⟨u,BJ hH l p _ u hq hp h1,h2⟩;cases hx
theorem BJ(hH:VY C H ρ W):∀(x x':List SV) (ps:List Prop) (v:List Value),frL H x=some (x',ps)->aA ps->ao ρ x v->ao (zO ρ W) x' v
 | [],_,_,_,hx,_,h=>by obtain⟨rfl,-⟩:=P' (Oi hx);exact h
 | x::r,x',_,v,hx,hp,⟨u,w,h1,h2,h3⟩=>by simp only[frL] at hx;split at hx;rename_i p ps1 q ps2 hp1 hq1;obtain⟨rfl,rfl⟩:=P' (Oi hx);obtain⟨c1,c2⟩:=b7 hp;exact⟨u,w,h1,JD hH x p ps1 u hp1 c1 h2,BJ hH r q ps2 w hq1 c2 h3⟩;cases hx
end
theorem J0{W':World}{US:Names}{wn:Option Nat}{fr:Bool}{z:Nat->Nat->Value->Prop}(e:Xh C ρ W nm wn fr US W')(hz:∀b i c,z b i c->(ρ.z b i c∨W.heap.size<=b)∧W'.cell? ⟨b,i,none⟩=some c∧c.oneCell'=true):Xh C ρ W nm wn fr (US.km z) W':=
 ⟨e.le.trans Names.bw,e.nn,e.nv,λb i c h=>by
  rcases h with h|h;exact e.nz b i c h;exact(hz b i c h).1,e.nk,e.os,e.tape,e.output,e.size,e.block,⟨e.hb.own,e.hb.low,λb i c h=>by
  rcases h with h|h;exact e.hb.zok b i c h
  ·exact(hz b i c h).2,e.hb.grd⟩⟩
theorem Dh{W':World}{val:Value}{sz n:Nat}{f:Nat->List SV}{t:TypeId}{z:Nat->Nat->Value->Prop}(hH:VY C H ρ W)(hf:ρ.v nm=none)(g:Gr W W')(hz:∀b i c,z b i c->(ρ.z b i c∨W.heap.size<=b)∧W'.cell? ⟨b,i,none⟩=some c∧c.oneCell'=true)(h:GU z W W' val sz n f t) :
  ∃US,Xh C ρ W nm (some nm) true US W'∧c8 US W' nm (.lst nm sz n f t)∧den US (.g nm nm sz 0 n) val:=by
 obtain⟨a',cap,z2,ZC,rfl,h1,h2⟩:=h;refine⟨(ρ.gU nm ⟨nm,a',cap,n⟩).km z2,J0 (fT (l:=⟨nm,a',cap,n⟩) hH.hb hf g (λhc b o hb=>?_)) (λb i c h=>hz b i c (ZC b i c h)),?_,⟨nm,a',cap,n⟩,Names.aX,rfl,by simp,h1,a',by simp,λhc=>?_⟩;obtain⟨b',u,k1,k2,k3,-⟩:=h2 hc;have hb:a'=some ⟨b,o,none⟩:=hb;rw[k1] at hb;injection hb with hb;injection hb with hb;subst hb;have k3:W'.heap[b']? = some (.cells u.toArray t (0,0)):=k3;exact⟨k2,(E'.1 k3).1⟩;refine⟨_,Names.aX,rfl,rfl,h1,λhc=>?_⟩;obtain⟨b',u,k1,k2,k3,k4,k5,k7,k6⟩:=h2 hc;refine⟨b',u,k1,k3,k4,k5,λi c hz=>?_,λi hi=>let ⟨us,q1,q2⟩:=k6 i hi;⟨us,aJ (ρ:=aB z2) ⟨λ_ _ h=>(by cases h),λ_ _ h=>(by cases h),λ_ _ _ h=>(by cases h),λb i c h=>(Or.inr h:ρ.z b i c∨z2 b i c)⟩ _ _ q1,q2⟩⟩;rcases hz with hz|hz;have:=jI (hH.hb.zok b' i c hz).1;omega;exact k7 i c hz;obtain⟨b',u,k1,-⟩:=h2 (by simpa using hc);exact⟨b',k1,by rw[k1];simp⟩
theorem LQ(hH:VY C H ρ W){con:UW C}{al:List SV}{vs:List Value}{r:DR}(hf:r.fr=true->ρ.v nm=none)(hD:Px con H nm al=some r)(ho:r.Ob)(hd:ao ρ al vs) :
  bx C.P C.co con.f vs.toArray W λe W'=>∃val,e=.returned val∧fX C ρ W nm r val W':=by
 unfold Px at hD;split at hD;rename_i t how;split at hD;rename_i Zk YU;split at hD;rename_i ob out hr;obtain⟨ze,he1,he2,he3⟩:∃ze:Nat->Nat->Value->Prop,(∀b i c,ze b i c->W.cell? ⟨b,i,none⟩=some c∧c.oneCell'=true)∧ao (aB ze) Zk vs∧∀z':Nat->Nat->Value->Prop,(∀b i c,z' b i c->ze b i c∨W.heap.size<=b)->(con.fresh=true->∀b i c,z' b i c->W.heap.size<=b)->∀b i c,z' b i c->ρ.z b i c∨W.heap.size<=b:=(by split at YU;rename_i hp;obtain rfl:=Oi YU;exact⟨ρ.z,hH.hb.zok,cK _ _ hp hd,λz' h _=>h⟩;split at YU;rename_i Xq;exact⟨_,λb i c h=>h,aJ Hq _ _ (sX hH 3 al Zk vs YU hd),λz' _ h b i c hz=>.inr (h Xq b i c hz)⟩;cases YU);split at hD;rename_i sz n f;obtain rfl:=Oi hD;refine(con.ok ze W Zk vs ob _ hH.hb.grd he1 he2 hr ho).mono ?_;rintro e W' ⟨val,z',rfl,g,hz1,-,ZC,Wh⟩;obtain⟨US,e1,e2,e3⟩:=Dh hH (hf rfl) g (λb i c h=>⟨he3 z' (λb i c h=>(hz1 b i c h).1) ZC b i c h,(hz1 b i c h).2⟩) (Wh t how);exact⟨_,rfl,US,e1,λm sb hm=>by obtain⟨rfl,rfl⟩:=P' (Oi hm);exact e2,e3⟩;rename_i x sz n f;obtain rfl:=Oi hD;refine(con.ok ze W Zk vs ob _ hH.hb.grd he1 he2 hr ho).mono ?_;rintro e W' ⟨val,z',rfl,g,hz1,-,ZC,Wh⟩;obtain⟨u,v,rfl,hx,hl⟩:∃u v,val=.agg #[u,v]∧den rl x u∧GU z' W W' v sz n f t:=Wh t how;obtain⟨US,e1,e2,e3⟩:=Dh hH (hf rfl) g (λb i c h=>⟨he3 z' (λb i c h=>(hz1 b i c h).1) ZC b i c h,(hz1 b i c h).2⟩) hl;exact⟨_,rfl,US,e1,λm sb hm=>by obtain⟨rfl,rfl⟩:=P' (Oi hm);exact e2,[u,v],⟨u,[v],rfl,bM (sH _) _ _ hx,v,[],rfl,e3,rfl⟩,rfl⟩;cases hD;cases hD;cases hD;rename_i hownN;clear hownN;split at hD
 ·rename_i hp;split at hD
  ·rename_i ob out hr;obtain rfl:=Oi hD;refine(con.ok ρ.z W al vs ob out hH.hb.grd hH.hb.zok (cK _ _ hp hd) hr ho).mono ?_;rintro e W' ⟨val,z',rfl,g,hz,hv,-,-⟩;refine⟨val,rfl,ρ.km z',⟨Names.bw,λ_ _ h=>.inl h,λ_ _ h=>.inl h,λb i c h=>?_,λ_ _=>rfl,g.os,g.tape,g.output,g.size,λb hb _=>Below.block g b hb,?_⟩,(λn sb h=>by cases h),bM (ρ:=aB z') ⟨λ_ _ h=>(by cases h),λ_ _ h=>(by cases h),λ_ _ _ h=>(by cases h),λb i c h=>(Or.inr h:ρ.z b i c∨z' b i c)⟩ _ _ hv⟩;rcases h with h|h;exact .inl h;exact(hz b i c h).1;have h':=hH.hb.gr g;exact⟨h'.own,h'.low,λb i c h=>by
    rcases h with h|h;exact h'.zok b i c h
    ·exact(hz b i c h).2,h'.grd⟩
  cases hD
 split at hD
 ·rename_i Zk YU;split at hD
  ·rename_i ob out hr;split at hD
   ·rename_i Xq;obtain rfl:=Oi hD;refine(con.ok _ W Zk vs ob out hH.hb.grd (λb i c h=>h) (aJ Hq _ _ (sX hH 3 al Zk vs YU hd)) hr ho).mono ?_;rintro e W' ⟨val,z',rfl,g,hz,hv,hf,-⟩;refine⟨val,rfl,ρ.km z',⟨Names.bw,λ_ _ h=>.inl h,λ_ _ h=>.inl h,λb i c h=>?_,λ_ _=>rfl,g.os,g.tape,g.output,g.size,λb hb _=>Below.block g b hb,?_⟩,(λn sb h=>by cases h),bM (ρ:=aB z') ⟨λ_ _ h=>(by cases h),λ_ _ h=>(by cases h),λ_ _ _ h=>(by cases h),λb i c h=>(Or.inr h:ρ.z b i c∨z' b i c)⟩ _ _ hv⟩;rcases h with h|h;exact .inl h;exact .inr (hf Xq b i c h);have h':=hH.hb.gr g;exact⟨h'.own,h'.low,λb i c h=>by
     rcases h with h|h;exact h'.zok b i c h
     ·exact(hz b i c h).2,h'.grd⟩
   split at hD;rename_i XW;obtain rfl:=Oi hD;refine(con.ok _ W Zk vs ob out hH.hb.grd (λb i c h=>h) (aJ Hq _ _ (sX hH 3 al Zk vs YU hd)) hr ho).mono ?_;rintro e W' ⟨val,z',rfl,g,hz,hv,-,-⟩;exact⟨val,rfl,vZ hH.hb g ⟨rfl,rfl,lX _ _ XW hv⟩⟩;cases hD
  cases hD
 cases hD
end
end Go.Proofs.YtgigkennhdolpaaGreatDoor
