/- A symbolic executor with lists. -/
import Derived.Test.YtmdpdknpapjchaaGreatDoorM11
set_option linter.all false
namespace Go.Proofs.YtmdpdknpapjchaaGreatDoor
open Go.RowKit
variable {cs:Array Value}{l q:LV}{N Yf b e i k m n off p sz:Nat}{h:Nat->List SV}{t tk:TypeId}{v:Value}{W':World}
section
variable {PP:Program}{C:Cx PP}{op:OpF}{a:Act}{ρ:Names}{W:World}{H:aU}{nm:Nat}
def Names.vo(ρ:Names)(n m:Nat):Names:=⟨λi=>if i=n then some m else ρ.n i,ρ.v,ρ.k,ρ.z,ρ.d,ρ.o⟩
def Names.fZ(ρ:Names)(e:Nat)(l:LV):Names:=⟨ρ.n,λi=>if i=e then some l else ρ.v i,ρ.k,ρ.z,ρ.d,ρ.o⟩
def Names.kP(ρ:Names)(z:Nat->Nat->Value->Prop):Names:=⟨ρ.n,ρ.v,ρ.k,λb i c=>ρ.z b i c∨z b i c,ρ.d,ρ.o⟩
theorem Names.EY(h:ρ.n n=none):ρ.le (ρ.vo n m):=by refine⟨λi b hb=>?_,λ_ _ h=>h,λ_ _ _ h=>h,λ_ _ _ h=>h⟩;show (if i=n then some m else ρ.n i)=some b;rw[Xk];exact hb;rintro rfl;rw[h] at hb;cases hb
theorem Names.iW(h:ρ.v e=none):ρ.le (ρ.fZ e l):=by refine⟨λ_ _ h=>h,λi b hb=>?_,λ_ _ _ h=>h,λ_ _ _ h=>h⟩;show (if i=e then some l else ρ.v i)=some b;rw[Xk];exact hb;rintro rfl;rw[h] at hb;cases hb
theorem Names.bz{z:Nat->Nat->Value->Prop} : ρ.le (ρ.kP z):=⟨λ_ _ h=>h,λ_ _ h=>h,λ_ _ _ h=>h,λ_ _ _ h=>.inl h⟩
theorem Names.gu : (ρ.vo n m).n n=some m:=by simp[Names.vo]
theorem Names.aQ : (ρ.fZ e l).v e=some l:=by simp[Names.fZ]
theorem qb(h:bM (ρ.vo n m) k b):bM ρ k b∨(k=n∧b=m):=by rcases h with h|⟨e,l,o,h1,h2,h3,h4⟩|h;by_cases hk:k=n;subst hk;rw[Names.gu] at h;exact .inr ⟨rfl,(Oi h).symm⟩;simp only[Names.vo,Xk hk] at h;exact .inl (.inl h);exact .inl (.inr (.inl ⟨e,l,o,h1,h2,h3,h4⟩));exact .inl (.inr (.inr h))
theorem kA(h:bM (ρ.fZ e l) k b):bM ρ k b∨(k=l.o∧l.cap≠0∧∃o,l.a=some ⟨b,o,none⟩):=by rcases h with h|⟨e',l',o,h1,h2,h3,h4⟩|h;exact .inl (.inl h);by_cases he:e'=e;subst he;rw[Names.aQ] at h1;obtain rfl:=Oi h1;exact .inr ⟨h2.symm,h3,o,h4⟩;simp only[Names.fZ,Xk he] at h1;exact .inl (.inr (.inl ⟨e',l',o,h1,h2,h3,h4⟩));exact .inl (.inr (.inr h))
theorem Bc(hb:HB C ρ W)(hf:ρ.n nm=none)(g:Gr W W')(hm:W.heap.size<=m)(hm':m<W'.heap.size):ZB C ρ W nm (some nm) true (ρ.vo nm m) W':=by
 refine⟨Names.EY hf,λn b h=>?_,λ_ _ h=>.inl h,λ_ _ _ h=>.inl h,λ_ _=>rfl,g.os,g.tape,g.output,g.size,λb hb _=>Below.block g b hb,?_⟩;by_cases hn:n=nm;subst hn;rw[Names.gu] at h;obtain rfl:=Oi h;exact .inr ⟨rfl,rfl,rfl,hm⟩;simp only[Names.vo,Xk hn] at h;exact .inl h;have h':=hb.gr g;refine⟨λn n' b h1 h2=>?_,λn b h=>?_,h'.zok,h'.grd⟩
 ·rcases qb h1 with h1|⟨h1,k1⟩<;>rcases qb h2 with h2|⟨h2,k2⟩
  exact hb.own n n' b h1 h2;have:=(hb.low n b h1).2;omega;have:=(hb.low n' b h2).2;omega;omega
 rcases qb h with h|⟨rfl,rfl⟩
 exact h'.low n b h;exact⟨Nat.le_trans hb.grd.1 hm,hm'⟩
theorem eR(hb:HB C ρ W)(hf:ρ.v nm=none)(g:Gr W W')(hm:l.cap≠0->∀b o,l.a=some ⟨b,o,none⟩->W.heap.size<=b∧b<W'.heap.size):ZB C ρ W nm (some l.o) true (ρ.fZ nm l) W':=by
 refine⟨Names.iW hf,λ_ _ h=>.inl h,λe l' h=>?_,λ_ _ _ h=>.inl h,λ_ _=>rfl,g.os,g.tape,g.output,g.size,λb hb _=>Below.block g b hb,?_⟩;by_cases hn:e=nm;subst hn;rw[Names.aQ] at h;obtain rfl:=Oi h;exact .inr ⟨rfl,rfl,rfl,λb o h1 h2=>.inr (hm h2 b o h1).1⟩;simp only[Names.fZ,Xk hn] at h;exact .inl h;have h':=hb.gr g;refine⟨λn n' b h1 h2=>?_,λn b h=>?_,h'.zok,h'.grd⟩
 ·rcases kA h1 with h1|⟨rfl,h1,o,h3⟩<;>rcases kA h2 with h2|⟨rfl,h2,o',h4⟩
  exact hb.own n n' b h1 h2;have:=(hb.low n b h1).2;have:=(hm h2 b o' h4).1;omega;have:=(hb.low n' b h2).2;have:=(hm h1 b o h3).1;omega;rfl
 rcases kA h with h|⟨rfl,h1,o,h3⟩
 exact h'.low n b h;exact⟨Nat.le_trans hb.grd.1 (hm h1 b o h3).1,(hm h1 b o h3).2⟩
theorem eU{w:World}{g:Nat}(h:b≠g):(w.setRow g cs).heap[b]? = w.heap[b]?:=by simp[World.setRow,Array.getElem?_modify,Ne.symm h]
theorem setRow_size{w:World}{g:Nat} : (w.setRow g cs).heap.size=w.heap.size:=by simp[World.setRow]
theorem HB.row(hb:HB C ρ W)(ho:bM ρ n b)(hz:∀i c,¬ρ.z b i c):HB C ρ (W.setRow b cs):=by
 have hl:=hb.low n b ho;refine⟨hb.own,λn b h=>by rw[setRow_size];exact hb.low n b h,λb' i c h=>?_,hb.grd.keep (Nat.le_of_eq setRow_size.symm) λb' Zh=>eU (by omega)⟩;have XW:b'≠b:=by rintro rfl;exact hz i c h
 exact⟨(cell_of_heap (eU XW)).trans (hb.zok b' i c h).1,(hb.zok b' i c h).2⟩
theorem jR(hb:HB C ρ W)(ho:bM ρ n b)(hz:∀i c,¬ρ.z b i c):ZB C ρ W nm (some n) false ρ (W.setRow b cs):=
 ⟨.refl _,λ_ _ h=>.inl h,λ_ _ h=>.inl h,λ_ _ _ h=>.inl h,λ_ _=>rfl,rfl,rfl,rfl,Nat.le_of_eq setRow_size.symm,λb' _ hn=>eU (by rintro rfl;exact hn n rfl ho),hb.row ho hz⟩
theorem Bb{o:Nat}(hb:HB C ρ W)(hf:ρ.v nm=none)(ho:bM ρ l.o b)(hz:∀i c,¬ρ.z b i c)(hl:l.a=some ⟨b,o,none⟩):ZB C ρ W nm (some l.o) true (ρ.fZ nm l) (W.setRow b cs):=by
 have e:=jR (nm:=nm) (cs:=cs) hb ho hz;refine⟨Names.iW hf,λ_ _ h=>.inl h,λe l' h=>?_,λ_ _ _ h=>.inl h,λ_ _=>rfl,e.os,e.tape,e.output,e.size,e.block,?_⟩;by_cases hn:e=nm;subst hn;rw[Names.aQ] at h;obtain rfl:=Oi h;refine .inr ⟨rfl,rfl,rfl,λb' o' h1 h2=>?_⟩;rw[hl] at h1;injection h1 with h1;injection h1 with h1;rw[<-h1];exact .inl ho;simp only[Names.fZ,Xk hn] at h;exact .inl h;have key:∀k c,bM (ρ.fZ nm l) k c->bM ρ k c:=λk c h=>by
  rcases kA h with h|⟨rfl,h1,o',h3⟩
  exact h;rw[hl] at h3;injection h3 with h3;injection h3 with h3;rw[<-h3];exact ho
 have h':=hb.row (cs:=cs) ho hz;exact⟨λn n' b h1 h2=>h'.own n n' b (key _ _ h1) (key _ _ h2),λn b h=>h'.low n b (key _ _ h),h'.zok,h'.grd⟩
theorem Hu(hb:HB C ρ W)(hf:ρ.v nm=none)(ho:l.cap≠0->∀b o,l.a=some ⟨b,o,none⟩->bM ρ l.o b):ZB C ρ W nm (some l.o) true (ρ.fZ nm l) W:=by
 refine⟨Names.iW hf,λ_ _ h=>.inl h,λe l' h=>?_,λ_ _ _ h=>.inl h,λ_ _=>rfl,rfl,rfl,rfl,F2 _,λ_ _ _=>rfl,?_⟩;by_cases hn:e=nm;subst hn;rw[Names.aQ] at h;obtain rfl:=Oi h;exact .inr ⟨rfl,rfl,rfl,λb' o' h1 h2=>.inl (ho h2 b' o' h1)⟩;simp only[Names.fZ,Xk hn] at h;exact .inl h;have key:∀k c,bM (ρ.fZ nm l) k c->bM ρ k c:=λk c h=>by
  rcases kA h with h|⟨rfl,h1,o',h3⟩
  exact h;exact ho h1 c o' h3
 exact⟨λn n' b h1 h2=>hb.own n n' b (key _ _ h1) (key _ _ h2),λn b h=>hb.low n b (key _ _ h),hb.zok,hb.grd⟩
theorem yF{l:List SV}{cs:List Value}(hb:HB C ρ W)(hf:ρ.n nm=none)(hm:W.heap.size<=m)(hd:au ρ l cs)(h1:∀c∈cs,c.oneCell'=true)(hbl:Zq W' m cs.toArray t):cS (ρ.vo nm m) W' nm (.lay l t):=
 ⟨m,cs,Names.gu,aK (Names.EY hf) _ _ hd,hbl,h1,λi c hz=>by have:=fU (hb.zok m i c hz).1;omega⟩
theorem tE{l:List SV}{cs:List Value}{v:SV}{y:Value}(hb:HB C ρ W)(hf:ρ.n nm=none)(hd:au ρ l cs)(h1:∀c∈cs,c.oneCell'=true)(hy:den (ρ.vo nm W.heap.size) v y) :
  eB C ρ W nm ⟨none,v,some (nm,.lay l t),true⟩ y (W.alloc (.cells cs.toArray t)):=by
 have g:Gr W (W.alloc (.cells cs.toArray t)):=(Gr.refl W).alloc _;refine⟨ρ.vo nm W.heap.size,Bc hb hf g (F2 _) (by simp),λn sb h=>?_,hy⟩;obtain⟨rfl,rfl⟩:=F7 (Oi h);exact yF hb hf (F2 _) hd h1 (Zq.new rfl)
mutual
theorem mr:∀(x:SV) (v:Value),mu x=true->den ρ x v->den ρ.zo x v
 | .v _,_,_,h=>h
 | .il _ _,_,_,h=>h
 | .bl _,_,_,h=>h
 | .f fn x y,v,hp,⟨u,w,h1,h2,h3⟩=>by simp only[mu] at hp;split at hp;rename_i hx;exact⟨u,w,cJ x u hx h1,cJ y w hp h2,h3⟩;cases hp
 | .agg l,v,hp,⟨u,h1,h2⟩=>⟨u,cJ l u hp h1,h2⟩
 | .tup l,v,hp,⟨u,h1,h2⟩=>⟨u,cJ l u hp h1,h2⟩
 | .e,_,_,h=>h
 | .rs _ _ _,_,_,h=>h
 | .rp _ _,_,_,h=>h
theorem cJ:∀(x:List SV) (v:List Value),dB x=true->au ρ x v->au ρ.zo x v
 | [],_,_,h=>h
 | x::r,v,hp,⟨u,w,h1,h2,h3⟩=>by simp only[dB] at hp;split at hp;rename_i hx;exact⟨u,w,h1,mr x u hx h2,cJ r w hp h3⟩;cases hp
end
mutual
theorem mG{XM:Names} : ∀(x:SV) (v:Value),uC x=true->den ρ x v->den XM x v
 | .v _,_,_,h=>h
 | .il _ _,_,_,h=>h
 | .bl _,_,_,h=>h
 | .f fn x y,v,hp,⟨u,w,h1,h2,h3⟩=>by simp only[uC] at hp;split at hp;rename_i hx;exact⟨u,w,eV x u hx h1,eV y w hp h2,h3⟩;cases hp
 | .agg l,v,hp,⟨u,h1,h2⟩=>⟨u,eV l u hp h1,h2⟩
 | .tup l,v,hp,⟨u,h1,h2⟩=>⟨u,eV l u hp h1,h2⟩
 | .e,_,_,h=>h
theorem eV{XM:Names} : ∀(x:List SV) (v:List Value),gW x=true->au ρ x v->au XM x v
 | [],_,_,h=>h
 | x::r,v,hp,⟨u,w,h1,h2,h3⟩=>by simp only[gW] at hp;split at hp;rename_i hx;exact⟨u,w,h1,mG x u hx h2,eV r w hp h3⟩;cases hp
end
def zW(W:World):Names:=aI λb i c=>W.cell? ⟨b,i,none⟩=some c∧c.oneCell'=true
def zR(ρ:Names)(W:World):Names:=aI λb i c=>W.cell? ⟨b,i,none⟩=some c∧c.oneCell'=true∧(ρ.z b i c∨∃n,bM ρ n b)
theorem qS(hb:HB C ρ W):ρ.zo.le (zR ρ W):=⟨λ_ _ h=>(by cases h),λ_ _ h=>(by cases h),λ_ _ _ h=>(by cases h),λb i c h=>⟨(hb.zok b i c h).1,(hb.zok b i c h).2,.inl h⟩⟩
theorem IW:(zR ρ W).le (zW W):=⟨λ_ _ h=>(by cases h),λ_ _ h=>(by cases h),λ_ _ _ h=>(by cases h),λb i c h=>⟨h.1,h.2.1⟩⟩
theorem ji{l:List SV}{vs:List Value}(sz i:Nat)(h:au ρ l vs):au ρ (chunk l sz i) ((vs.drop (i*sz)).take sz):=dt _ (bS _ h)
theorem m6(hH:YH C H ρ W)(hk:look H m=some (.lst e sz N h t))(hd:den ρ (.g m e sz off n) v) :
  ∃a' cap,v=.slice a' n cap∧n<=cap∧∀i,i<n->∃b o us,a'=some ⟨b,o,none⟩∧au ρ.zo (h (off+i)) us∧us.length=sz∧(∀(k:Nat) (c:Value),us[k]? = some c->W.cell? ⟨b,o+i*sz+k,none⟩=some c∧c.oneCell'=true)∧bM ρ m b:=by
 obtain⟨l,h1,ho,h2,h3,a',rfl,h5⟩:=hd;refine⟨a',l.cap-off,rfl,by omega,λi hi=>?_⟩;obtain⟨b,k1,rfl⟩:=h5 (by omega);obtain⟨b',us,e1,e2,e3,e4,e5⟩:=yg (off:=0) (i:=off+i) hH hk ⟨l,b,h1,ho,by omega,h3,k1,rfl⟩;obtain rfl:b=b':=by injection e1 with e1;injection e1 with e1;injection e1
 refine⟨b,off*sz,us,rfl,e2,e3,λk c hc=>?_,e5⟩;rw[<-Nat.add_mul];exact e4 k c hc
theorem qc{g:Nat->Nat×(Nat->List SV)}(hH:YH C H ρ W)(hk:look H m=some (.nst e sz N h p Yf g tk t none))(hd:den ρ (.g m e sz off n) v) :
  ∃a' cap,v=.slice a' n cap∧n<=cap∧∀i,i<n->∃b o us q,a'=some ⟨b,o,none⟩∧ρ.k m (off+i)=some q∧q.N=(g (off+i)).1∧fF ρ W q Yf (g (off+i)).2 tk∧au ρ.zo ((h (off+i)).set p (.v (.slice q.a q.N q.cap))) us∧us.length=sz∧(∀(k:Nat) (c:Value),us[k]? = some c->W.cell? ⟨b,o+i*sz+k,none⟩=some c∧c.oneCell'=true)∧bM ρ m b:=by
 obtain⟨l,h1,ho,h2,h3,a',rfl,h5⟩:=hd;refine⟨a',l.cap-off,rfl,by omega,λi hi=>?_⟩;obtain⟨b,k1,rfl⟩:=h5 (by omega);obtain⟨b',us,q,e1,f1,f2,f3,e2,e3,e4,e5⟩:=xU (off:=0) (i:=off+i) hH hk ⟨l,b,h1,ho,by omega,h3,k1,rfl⟩;obtain rfl:b=b':=by injection e1 with e1;injection e1 with e1;injection e1
 refine⟨b,off*sz,us,q,rfl,f1,f2,f3,e2,e3,λk c hc=>?_,e5⟩;rw[<-Nat.add_mul];exact e4 k c hc
theorem qi{g:Nat->Nat×(Nat->List SV)}(hH:YH C H ρ W)(hk:look H m=some (.nst e sz N h p Yf g tk t none))(hd:den ρ (.kd m i Yf off n) v) :
  ∃a' cap,v=.slice a' n cap∧n<=cap∧∀j,j<n->∃b o us,a'=some ⟨b,o,none⟩∧au ρ.zo ((g i).2 (off+j)) us∧us.length=Yf∧(∀(k:Nat) (c:Value),us[k]? = some c->W.cell? ⟨b,o+j*Yf+k,none⟩=some c∧c.oneCell'=true)∧bM ρ m b:=by
 obtain⟨l,h1,h2,h3,a',rfl,h5⟩:=hd;refine⟨a',l.cap-off,rfl,by omega,λj hj=>?_⟩;obtain⟨b,k1,rfl⟩:=h5 (by omega);obtain⟨b',us,e1,f1,f2,e2,e3,e4,e5⟩:=yj (off:=0) (j:=off+j) hH hk ⟨l,b,h1,by omega,h3,k1,rfl⟩;obtain rfl:b=b':=by injection e1 with e1;injection e1 with e1;injection e1
 refine⟨b,off*Yf,us,rfl,e2,e3,λk c hc=>?_,e5⟩;rw[<-Nat.add_mul];exact e4 k c hc
theorem Rj{Z:Nat->Nat->Value->Prop}{f f':Nat->List SV}(h1:ρ.k m i=some q)(h2:q.N=n)(h3:fF ρ W q Yf f tk)(hZ:∀b i c,W.cell? ⟨b,i,none⟩=some c->c.oneCell'=true->bM ρ m b->Z b i c)(hf:∀j,j<n->∀us,au ρ.zo (f j) us->au (aI Z) (f' j) us):den (aI Z) (.rs Yf n f') (.slice q.a q.N q.cap):=by
 obtain⟨h3,h4⟩:=h3;refine⟨q.a,q.cap,by rw[h2],by omega,λj hj=>?_⟩;obtain⟨b,u,k1,k2,k3,k4,k5,k6⟩:=h4 (by omega);obtain⟨us,p1,p2,p3⟩:=k6 j (by omega);refine⟨b,0,us,k1,hf j hj us p1,p2,λk c hc=>?_⟩;have:=p3 k c hc;rw[B'];exact hZ b _ c (by rw[k2.cell];simpa using this) (k4 c (Xu this)) (.inr (.inr ⟨i,q,0,h1,by omega,k1⟩))
theorem Xf{Z:Nat->Nat->Value->Prop}{f f':Nat->List SV}(h1:∀b,q.cap≠0->q.a=some ⟨b,0,none⟩->bM ρ m b)(h2:q.N=n)(h3:fF ρ W q Yf f tk)(hZ:∀b i c,W.cell? ⟨b,i,none⟩=some c->c.oneCell'=true->bM ρ m b->Z b i c)(hf:∀j,j<n->∀us,au ρ.zo (f j) us->au (aI Z) (f' j) us):den (aI Z) (.rs Yf n f') (.slice q.a q.N q.cap):=by
 obtain⟨h3,h4⟩:=h3;refine⟨q.a,q.cap,by rw[h2],by omega,λj hj=>?_⟩;obtain⟨b,u,k1,k2,k3,k4,k5,k6⟩:=h4 (by omega);obtain⟨us,p1,p2,p3⟩:=k6 j (by omega);refine⟨b,0,us,k1,hf j hj us p1,p2,λk c hc=>?_⟩;have:=p3 k c hc;rw[B'];exact hZ b _ c (by rw[k2.cell];simpa using this) (k4 c (Xu this)) (h1 b (by omega) k1)
theorem xV{Z:Nat->Nat->Value->Prop}{g:Nat->Nat×(Nat->List SV)}{us:List Value}(h1:ρ.k m i=some q)(h2:q.N=(g i).1)(h3:fF ρ W q Yf (g i).2 tk)(hZ:∀b i c,W.cell? ⟨b,i,none⟩=some c->c.oneCell'=true->bM ρ m b->Z b i c)(hle:ρ.zo.le (aI Z))(hd:au ρ.zo ((h i).set p (.v (.slice q.a q.N q.cap))) us):au (aI Z) (G4 h p Yf g i) us:=
 qE (p:=0) (λv hv=>by obtain rfl:v=_:=hv;exact Rj h1 h2 h3 hZ λj _ us hu=>aK hle _ _ hu) (aK hle _ _ hd)
mutual
theorem Tj{rec:List SV->Option (List SV)}(hH:YH C H ρ W)(Y3:∀l l' vs,rec l=some l'->au ρ l vs->au (zR ρ W) l' vs):∀(x x':SV) (v:Value),fzS rec H x=some x'->den ρ x v->den (zR ρ W) x' v
 | .v _,_,_,hx,h=>by obtain rfl:=Oi hx;exact h
 | .il _ _,_,_,hx,h=>by obtain rfl:=Oi hx;exact h
 | .bl _,_,_,hx,h=>by obtain rfl:=Oi hx;exact h
 | .e,_,_,hx,h=>by obtain rfl:=Oi hx;exact h
 | .rs sz n f,_,v,hx,h=>by obtain rfl:=Oi hx;exact bE (qS hH.hb) _ _ (mr _ _ rfl h)
 | .rp x off,_,v,hx,h=>by obtain rfl:=Oi hx;exact bE (qS hH.hb) _ _ (mr _ _ rfl h)
 | .p n off,x',v,hx,h=>by simp only[fzS] at hx;split at hx;rename_i cs t hl;split at hx;rename_i l hr;obtain rfl:=Oi hx;obtain⟨b,e1,e2⟩:=h;obtain⟨b',vs,k1,k2,k3,k4,k5⟩:=hH.blk n _ hl;rw[e1] at k1;obtain rfl:=Oi k1;refine⟨b,0,vs,by rw[B'];exact e2,Y3 _ _ _ hr k2,λk c hc=>⟨?_,k4 c (Xu hc),.inr ⟨n,.inl e1⟩⟩⟩;rw[B',k3.cell];simpa using hc;cases hx;cases hx
 | .s n sz off len cap,x',v,hx,h=>by simp only[fzS] at hx;split at hx;rename_i cs t hl;split at hx;rename_i l hr;split at hx;rename_i b1 b2;have b1:=F4 b1;have b2:=F4 b2;obtain rfl:=Oi hx;obtain⟨b,e1,e2⟩:=h;obtain⟨b',vs,k1,k2,k3,k4,k5⟩:=hH.blk n _ hl;rw[e1] at k1;obtain rfl:=Oi k1;have hd:=Y3 _ _ _ hr k2;have hlen:=aB hd;refine⟨_,_,e2,b2,λi hi=>⟨b,off,_,rfl,ji sz i (bS off hd),?_,λk c hc=>?_⟩⟩;have:i*sz+sz<=len*sz:=(by rw[<-Nat.succ_mul];exact Xo _ hi);simp only[List.length_take,List.length_drop];omega;rw[List.getElem?_take] at hc;split at hc;rw[List.getElem?_drop,List.getElem?_drop] at hc;refine⟨?_,k4 c (Xu hc),.inr ⟨n,.inl e1⟩⟩;rw[k3.cell];simpa[Nat.add_assoc] using hc;cases hc;cases hx;cases hx;cases hx
 | .g m e sz off n,x',v,hx,h=>by simp only[fzS] at hx;split at hx;rename_i e' Yb N hh t hl;split at hx;rename_i b1 b2;have b1:=Nb b1;have b2:=Nb b2;subst b1 b2;obtain rfl:=Oi hx;obtain⟨a',cap,e1,e2,e3⟩:=m6 hH hl h;exact⟨a',cap,e1,e2,λi hi=>let ⟨b,o,us,k1,k2,k3,k4,k5⟩:=e3 i hi;⟨b,o,us,k1,aK (qS hH.hb) _ _ k2,k3,λk c hc=>⟨(k4 k c hc).1,(k4 k c hc).2,.inr ⟨_,k5⟩⟩⟩⟩;cases hx;rename_i e' Yb N hh p Yf g tk t hl;split at hx;rename_i b1 b2;have b1:=Nb b1;have b2:=Nb b2;subst b1 b2;obtain rfl:=Oi hx;obtain⟨a',cap,e1,e2,e3⟩:=qc hH hl h;exact⟨a',cap,e1,e2,λi hi=>let ⟨b,o,us,q,k1,f1,f2,f3,k2,k3,k4,k5⟩:=e3 i hi;⟨b,o,us,k1,xV f1 f2 f3 (λb i c h1 h2 h3=>⟨h1,h2,.inr ⟨_,h3⟩⟩) (qS hH.hb) k2,k3,λk c hc=>⟨(k4 k c hc).1,(k4 k c hc).2,.inr ⟨_,k5⟩⟩⟩⟩;cases hx;cases hx
 | .gp m e sz i off,x',v,hx,h=>by simp only[fzS] at hx;split at hx;rename_i e' Yb N hh t hl;split at hx;rename_i b1 b2;have b1:=Nb b1;have b2:=Nb b2;subst b1 b2;obtain rfl:=Oi hx;obtain⟨b,us,e1,e2,e3,e4,e5⟩:=yg hH hl h;exact⟨b,i*sz,us,e1,aK (qS hH.hb) _ _ e2,λk c hc=>⟨(e4 k c hc).1,(e4 k c hc).2,.inr ⟨_,e5⟩⟩⟩;cases hx;rename_i e' Yb N hh p Yf g tk t hl;split at hx;rename_i b1 b2;have b1:=Nb b1;have b2:=Nb b2;subst b1 b2;obtain rfl:=Oi hx;obtain⟨b,us,q,e1,f1,f2,f3,e2,e3,e4,e5⟩:=xU hH hl h;exact⟨b,i*sz,us,e1,xV f1 f2 f3 (λb i c h1 h2 h3=>⟨h1,h2,.inr ⟨_,h3⟩⟩) (qS hH.hb) e2,λk c hc=>⟨(e4 k c hc).1,(e4 k c hc).2,.inr ⟨_,e5⟩⟩⟩;cases hx;cases hx
 | .kd m i sz off n,x',v,hx,h=>by simp only[fzS] at hx;split at hx;rename_i e esz N hh p g tk t hl;obtain rfl:=Oi hx;obtain⟨a',cap,e1,e2,e3⟩:=qi hH (pe hl) h;exact⟨a',cap,e1,e2,λi hi=>let ⟨b,o,us,k1,k2,k3,k4,k5⟩:=e3 i hi;⟨b,o,us,k1,aK (qS hH.hb) _ _ k2,k3,λk c hc=>⟨(k4 k c hc).1,(k4 k c hc).2,.inr ⟨_,k5⟩⟩⟩⟩;cases hx
 | .kq m i sz j off,x',v,hx,h=>by simp only[fzS] at hx;split at hx;rename_i e esz N hh p g tk t hl;obtain rfl:=Oi hx;obtain⟨b,us,e1,f1,f2,e2,e3,e4,e5⟩:=yj hH (pe hl) h;exact⟨b,j*sz,us,e1,aK (qS hH.hb) _ _ e2,λk c hc=>⟨(e4 k c hc).1,(e4 k c hc).2,.inr ⟨_,e5⟩⟩⟩;cases hx
 | .f fn x y,x',v,hx,⟨u,w,h1,h2,h3⟩=>by simp only[fzS] at hx;split at hx;rename_i p q hp hq;obtain rfl:=Oi hx;exact⟨u,w,oH hH Y3 x p u hp h1,oH hH Y3 y q w hq h2,h3⟩;cases hx
 | .m _,_,_,hx,_=>by cases hx
 | .agg l,x',v,hx,⟨u,h1,h2⟩=>by simp only[fzS] at hx;split at hx;rename_i p hp;obtain rfl:=Oi hx;exact⟨u,oH hH Y3 l p u hp h1,h2⟩;cases hx
 | .tup l,x',v,hx,⟨u,h1,h2⟩=>by simp only[fzS] at hx;split at hx;rename_i p hp;obtain rfl:=Oi hx;exact⟨u,oH hH Y3 l p u hp h1,h2⟩;cases hx
theorem oH{rec:List SV->Option (List SV)}(hH:YH C H ρ W)(Y3:∀l l' vs,rec l=some l'->au ρ l vs->au (zR ρ W) l' vs):∀(x x':List SV) (v:List Value),fzL rec H x=some x'->au ρ x v->au (zR ρ W) x' v
 | [],_,_,hx,h=>by obtain rfl:=Oi hx;exact h
 | x::r,x',v,hx,⟨u,w,h1,h2,h3⟩=>by simp only[fzL] at hx;split at hx;rename_i p q hp hq;obtain rfl:=Oi hx;exact⟨u,w,h1,Tj hH Y3 x p u hp h2,oH hH Y3 r q w hq h3⟩;cases hx
end
theorem uy(hH:YH C H ρ W):∀(k:Nat) (l l':List SV) (vs:List Value),fzK H k l=some l'->au ρ l vs->au (zR ρ W) l' vs
 | 0,l,l',vs,h,hd=>oH hH (λ_ _ _ h _=>by cases h) l l' vs h hd
 | k+1,l,l',vs,h,hd=>oH hH (λl l' vs h hd=>uy hH k l l' vs h hd) l l' vs h hd
theorem AB{XM:Names}{x y:SV}(hxy:∀v,den ρ x v->den XM y v):∀{l:List SV} {i:Nat} {us:List Value},gW (l.set i .e)=true->au ρ (l.set i x) us->au XM (l.set i y) us
 | [],i,us,_,h=>h
 | z::r,0,us,hf,h=>by obtain⟨a,b,e,h1,h2⟩:=aF h;simp only[List.set_cons_zero,gW,uC] at hf;exact⟨a,b,e,hxy _ h1,eV _ _ hf h2⟩
 | z::r,i+1,us,hf,h=>by obtain⟨a,b,e,h1,h2⟩:=aF h;simp only[List.set_cons_succ,gW] at hf;split at hf;rename_i hz;exact⟨a,b,e,mG _ _ hz h1,AB hxy hf h2⟩;cases hf
def zO(ρ:Names)(W:World):Names:=aI λb i c=>W.cell? ⟨b,i,none⟩=some c∧c.oneCell'=true∧∃n,bM ρ n b
mutual
theorem Lg(hH:YH C H ρ W):∀(x x':SV) (ps:List Prop) (v:Value),frS H x=some (x',ps)->aD ps->den ρ x v->den (zO ρ W) x' v
 | .v _,_,_,_,hx,_,h=>by obtain⟨rfl,-⟩:=F7 (Oi hx);exact h
 | .il _ _,_,_,_,hx,_,h=>by obtain⟨rfl,-⟩:=F7 (Oi hx);exact h
 | .bl _,_,_,_,hx,_,h=>by obtain⟨rfl,-⟩:=F7 (Oi hx);exact h
 | .e,_,_,_,hx,_,h=>by obtain⟨rfl,-⟩:=F7 (Oi hx);exact h
 | .rs sz n f,_,_,v,hx,_,h=>by cases hx
 | .rp x off,_,_,v,hx,_,h=>by cases hx
 | .p n off,x',_,v,hx,_,h=>by cases hx
 | .gp m e sz i off,x',_,v,hx,_,h=>by cases hx
 | .f fn x y,x',_,v,hx,_,_=>by cases hx
 | .m _,_,_,_,hx,_,_=>by cases hx
 | .kd _ _ _ _ _,_,_,_,hx,_,_=>by cases hx
 | .kq _ _ _ _ _,_,_,_,hx,_,_=>by cases hx
 | .s n sz off len cap,x',ps,v,hx,_,h=>by simp only[frS] at hx;split at hx;rename_i cs t hl;split at hx;rename_i b1 b2 b3;have b1:=F4 b1;have b2:=F4 b2;obtain⟨rfl,-⟩:=F7 (Oi hx);obtain⟨b,e1,e2⟩:=h;obtain⟨b',vs,k1,k2,k3,k4,k5⟩:=hH.blk n _ hl;rw[e1] at k1;obtain rfl:=Oi k1;have hd:au (zO ρ W).zo cs vs:=eV _ _ b3 k2;have hlen:=aB hd;refine⟨_,_,e2,b2,λi hi=>⟨b,off,_,rfl,ji sz i (bS off hd),?_,λk c hc=>?_⟩⟩;have:i*sz+sz<=len*sz:=(by rw[<-Nat.succ_mul];exact Xo _ hi);simp only[List.length_take,List.length_drop];omega;rw[List.getElem?_take] at hc;split at hc;rw[List.getElem?_drop,List.getElem?_drop] at hc;refine⟨?_,k4 c (Xu hc),n,.inl e1⟩;rw[k3.cell];simpa[Nat.add_assoc] using hc;cases hc;cases hx;cases hx
 | .g m e sz off n,x',ps,v,hx,hp,h=>by simp only[frS] at hx;split at hx;rename_i e' Yb N hh t hl;split at hx;rename_i b1 b2;have b1:=Nb b1;have b2:=Nb b2;subst b1 b2;obtain⟨rfl,rfl⟩:=F7 (Oi hx);have hp:∀i,i<n->gW (hh (off+i))=true:=hp;obtain⟨a',cap,e1,e2,e3⟩:=m6 hH hl h;exact⟨a',cap,e1,e2,λi hi=>let ⟨b,o,us,k1,k2,k3,k4,k5⟩:=e3 i hi;⟨b,o,us,k1,eV _ _ (hp i hi) k2,k3,λk c hc=>⟨(k4 k c hc).1,(k4 k c hc).2,_,k5⟩⟩⟩;cases hx;rename_i e' Yb N hh p Yf g tk t hl;split at hx;rename_i b1 b2;have b1:=Nb b1;have b2:=Nb b2;subst b1 b2;obtain⟨rfl,rfl⟩:=F7 (Oi hx);obtain⟨hp1,hp2⟩:(∀i,i<n->gW ((hh (off+i)).set p .e)=true)∧∀i,i<n->∀j,j<(g (off+i)).1->gW ((g (off+i)).2 j)=true:=hp;obtain⟨a',cap,e1,e2,e3⟩:=qc hH hl h;exact⟨a',cap,e1,e2,λi hi=>let ⟨b,o,us,q,k1,f1,f2,f3,k2,k3,k4,k5⟩:=e3 i hi;⟨b,o,us,k1,AB (λv hv=>by obtain rfl:v=_:=hv;exact Rj f1 f2 f3 (λb i c h1 h2 h3=>⟨h1,h2,_,h3⟩) λj hj us hu=>eV _ _ (hp2 i hi j hj) hu) (hp1 i hi) k2,k3,λk c hc=>⟨(k4 k c hc).1,(k4 k c hc).2,_,k5⟩⟩⟩;cases hx;cases hx
 | .agg l,x',ps,v,hx,hp,⟨u,h1,h2⟩=>by simp only[frS] at hx;split at hx;rename_i p ps' hq;obtain⟨rfl,rfl⟩:=F7 (Oi hx);exact⟨u,Da hH l p _ u hq hp h1,h2⟩;cases hx
 | .tup l,x',ps,v,hx,hp,⟨u,h1,h2⟩=>by simp only[frS] at hx;split at hx;rename_i p ps' hq;obtain⟨rfl,rfl⟩:=F7 (Oi hx);exact⟨u,Da hH l p _ u hq hp h1,h2⟩;cases hx
theorem Da(hH:YH C H ρ W):∀(x x':List SV) (ps:List Prop) (v:List Value),frL H x=some (x',ps)->aD ps->au ρ x v->au (zO ρ W) x' v
 | [],_,_,_,hx,_,h=>by obtain⟨rfl,-⟩:=F7 (Oi hx);exact h
 | x::r,x',_,v,hx,hp,⟨u,w,h1,h2,h3⟩=>by simp only[frL] at hx;split at hx;rename_i p ps1 q ps2 hp1 hq1;obtain⟨rfl,rfl⟩:=F7 (Oi hx);obtain⟨c1,c2⟩:=b8 hp;exact⟨u,w,h1,Lg hH x p ps1 u hp1 c1 h2,Da hH r q ps2 w hq1 c2 h3⟩;cases hx
end
theorem LD{XM:Names}{wn:Option Nat}{fr:Bool}{z:Nat->Nat->Value->Prop}(e:ZB C ρ W nm wn fr XM W')(hz:∀b i c,z b i c->(ρ.z b i c∨W.heap.size<=b)∧W'.cell? ⟨b,i,none⟩=some c∧c.oneCell'=true):ZB C ρ W nm wn fr (XM.kP z) W':=
 ⟨e.le.trans Names.bz,e.nn,e.nv,λb i c h=>by
  rcases h with h|h;exact e.nz b i c h;exact(hz b i c h).1,e.nk,e.os,e.tape,e.output,e.size,e.block,⟨e.hb.own,e.hb.low,λb i c h=>by
  rcases h with h|h;exact e.hb.zok b i c h
  ·exact(hz b i c h).2,e.hb.grd⟩⟩
theorem EK{val:Value}{f:Nat->List SV}{z:Nat->Nat->Value->Prop}(hH:YH C H ρ W)(hf:ρ.v nm=none)(g:Gr W W')(hz:∀b i c,z b i c->(ρ.z b i c∨W.heap.size<=b)∧W'.cell? ⟨b,i,none⟩=some c∧c.oneCell'=true)(h:Il z W W' val sz n f t) :
  ∃XM,ZB C ρ W nm (some nm) true XM W'∧cS XM W' nm (.lst nm sz n f t)∧den XM (.g nm nm sz 0 n) val:=by
 obtain⟨a',cap,z2,hz2,rfl,h1,h2⟩:=h;refine⟨(ρ.fZ nm ⟨nm,a',cap,n⟩).kP z2,LD (eR (l:=⟨nm,a',cap,n⟩) hH.hb hf g (λhc b o hb=>?_)) (λb i c h=>hz b i c (hz2 b i c h)),?_,⟨nm,a',cap,n⟩,Names.aQ,rfl,by simp,h1,a',by simp,λhc=>?_⟩;obtain⟨b',u,k1,k2,k3,-⟩:=h2 hc;have hb:a'=some ⟨b,o,none⟩:=hb;rw[k1] at hb;injection hb with hb;injection hb with hb;subst hb;have k3:W'.heap[b']? = some (.cells u.toArray t (0,0)):=k3;exact⟨k2,(E'.1 k3).1⟩;refine⟨_,Names.aQ,rfl,rfl,h1,λhc=>?_⟩;obtain⟨b',u,k1,k2,k3,k4,k5,k7,k6⟩:=h2 hc;refine⟨b',u,k1,k3,k4,k5,λi c hz=>?_,λi hi=>let ⟨us,q1,q2⟩:=k6 i hi;⟨us,aK (ρ:=aI z2) ⟨λ_ _ h=>(by cases h),λ_ _ h=>(by cases h),λ_ _ _ h=>(by cases h),λb i c h=>(Or.inr h:ρ.z b i c∨z2 b i c)⟩ _ _ q1,q2⟩⟩;rcases hz with hz|hz;have:=fU (hH.hb.zok b' i c hz).1;omega;exact k7 i c hz;obtain⟨b',u,k1,-⟩:=h2 (by simpa using hc);exact⟨b',k1,by rw[k1];simp⟩
theorem NI(hH:YH C H ρ W){con:XR C}{al:List SV}{vs:List Value}{r:DR}(hf:r.fr=true->ρ.v nm=none)(hD:RX con H nm al=some r)(ho:r.Ob)(hd:au ρ al vs) :
  bj C.P C.co con.f vs.toArray W λe W'=>∃val,e=.returned val∧eB C ρ W nm r val W':=by
 unfold RX at hD;split at hD;rename_i t how;split at hD;rename_i al' hal;split at hD;rename_i ob out hr;obtain⟨ze,he1,he2,he3⟩:∃ze:Nat->Nat->Value->Prop,(∀b i c,ze b i c->W.cell? ⟨b,i,none⟩=some c∧c.oneCell'=true)∧au (aI ze) al' vs∧∀z':Nat->Nat->Value->Prop,(∀b i c,z' b i c->ze b i c∨W.heap.size<=b)->(con.fresh=true->∀b i c,z' b i c->W.heap.size<=b)->∀b i c,z' b i c->ρ.z b i c∨W.heap.size<=b:=(by split at hal;rename_i hp;obtain rfl:=Oi hal;exact⟨ρ.z,hH.hb.zok,cJ _ _ hp hd,λz' h _=>h⟩;split at hal;rename_i Zz;exact⟨_,λb i c h=>h,aK IW _ _ (uy hH 3 al al' vs hal hd),λz' _ h b i c hz=>.inr (h Zz b i c hz)⟩;cases hal);split at hD;rename_i sz n f;obtain rfl:=Oi hD;refine(con.ok ze W al' vs ob _ hH.hb.grd he1 he2 hr ho).mono ?_;rintro e W' ⟨val,z',rfl,g,hz1,-,hz2,YZ⟩;obtain⟨XM,e1,e2,e3⟩:=EK hH (hf rfl) g (λb i c h=>⟨he3 z' (λb i c h=>(hz1 b i c h).1) hz2 b i c h,(hz1 b i c h).2⟩) (YZ t how);exact⟨_,rfl,XM,e1,λm sb hm=>by obtain⟨rfl,rfl⟩:=F7 (Oi hm);exact e2,e3⟩;rename_i x sz n f;obtain rfl:=Oi hD;refine(con.ok ze W al' vs ob _ hH.hb.grd he1 he2 hr ho).mono ?_;rintro e W' ⟨val,z',rfl,g,hz1,-,hz2,YZ⟩;obtain⟨u,v,rfl,hx,hl⟩:∃u v,val=.agg #[u,v]∧den sB x u∧Il z' W W' v sz n f t:=YZ t how;obtain⟨XM,e1,e2,e3⟩:=EK hH (hf rfl) g (λb i c h=>⟨he3 z' (λb i c h=>(hz1 b i c h).1) hz2 b i c h,(hz1 b i c h).2⟩) hl;exact⟨_,rfl,XM,e1,λm sb hm=>by obtain⟨rfl,rfl⟩:=F7 (Oi hm);exact e2,[u,v],⟨u,[v],rfl,bE (tV _) _ _ hx,v,[],rfl,e3,rfl⟩,rfl⟩;cases hD;cases hD;cases hD;rename_i hownN;clear hownN;split at hD
 ·rename_i hp;split at hD
  ·rename_i ob out hr;obtain rfl:=Oi hD;refine(con.ok ρ.z W al vs ob out hH.hb.grd hH.hb.zok (cJ _ _ hp hd) hr ho).mono ?_;rintro e W' ⟨val,z',rfl,g,hz,hv,-,-⟩;refine⟨val,rfl,ρ.kP z',⟨Names.bz,λ_ _ h=>.inl h,λ_ _ h=>.inl h,λb i c h=>?_,λ_ _=>rfl,g.os,g.tape,g.output,g.size,λb hb _=>Below.block g b hb,?_⟩,(λn sb h=>by cases h),bE (ρ:=aI z') ⟨λ_ _ h=>(by cases h),λ_ _ h=>(by cases h),λ_ _ _ h=>(by cases h),λb i c h=>(Or.inr h:ρ.z b i c∨z' b i c)⟩ _ _ hv⟩;rcases h with h|h;exact .inl h;exact(hz b i c h).1;have h':=hH.hb.gr g;exact⟨h'.own,h'.low,λb i c h=>by
    rcases h with h|h;exact h'.zok b i c h
    ·exact(hz b i c h).2,h'.grd⟩
  cases hD
 split at hD
 ·rename_i al' hal;split at hD
  ·rename_i ob out hr;split at hD
   ·rename_i Zz;obtain rfl:=Oi hD;refine(con.ok _ W al' vs ob out hH.hb.grd (λb i c h=>h) (aK IW _ _ (uy hH 3 al al' vs hal hd)) hr ho).mono ?_;rintro e W' ⟨val,z',rfl,g,hz,hv,hf,-⟩;refine⟨val,rfl,ρ.kP z',⟨Names.bz,λ_ _ h=>.inl h,λ_ _ h=>.inl h,λb i c h=>?_,λ_ _=>rfl,g.os,g.tape,g.output,g.size,λb hb _=>Below.block g b hb,?_⟩,(λn sb h=>by cases h),bE (ρ:=aI z') ⟨λ_ _ h=>(by cases h),λ_ _ h=>(by cases h),λ_ _ _ h=>(by cases h),λb i c h=>(Or.inr h:ρ.z b i c∨z' b i c)⟩ _ _ hv⟩;rcases h with h|h;exact .inl h;exact .inr (hf Zz b i c h);have h':=hH.hb.gr g;exact⟨h'.own,h'.low,λb i c h=>by
     rcases h with h|h;exact h'.zok b i c h
     ·exact(hz b i c h).2,h'.grd⟩
   split at hD;rename_i hfl;obtain rfl:=Oi hD;refine(con.ok _ W al' vs ob out hH.hb.grd (λb i c h=>h) (aK IW _ _ (uy hH 3 al al' vs hal hd)) hr ho).mono ?_;rintro e W' ⟨val,z',rfl,g,hz,hv,-,-⟩;exact⟨val,rfl,xJ hH.hb g ⟨rfl,rfl,mG _ _ hfl hv⟩⟩;cases hD
  cases hD
 cases hD
end
end Go.Proofs.YtmdpdknpapjchaaGreatDoor
