/- A symbolic executor with lists, 6. -/
import Derived.Test.YtgigkennhdolpaaGreatDoorM5
namespace Go.Proofs.YtgigkennhdolpaaGreatDoor
open Go.RowKit
section
variable {PP:Program}{C:Cx PP}{op:ZD}{a:Act}{ρ:Names}{W W':World}{H:aY}{nm:Nat}
def Names.tL(ρ:Names)(n m:Nat):Names:=⟨λi=>if i=n then some m else ρ.n i,ρ.v,ρ.k,ρ.z,ρ.d,ρ.o⟩
def Names.fT(ρ:Names)(e:Nat)(l:LV):Names:=⟨ρ.n,λi=>if i=e then some l else ρ.v i,ρ.k,ρ.z,ρ.d,ρ.o⟩
def Names.jW(ρ:Names)(z:Nat->Nat->Value->Prop):Names:=⟨ρ.n,ρ.v,ρ.k,λb i c=>ρ.z b i c∨z b i c,ρ.d,ρ.o⟩
theorem Names.CZ{n m:Nat}(h:ρ.n n=none):ρ.le (ρ.tL n m):=by refine⟨λi b hb=>?_,λ_ _ h=>h,λ_ _ _ h=>h,λ_ _ _ h=>h⟩;show (if i=n then some m else ρ.n i)=some b;rw[Uv];exact hb;rintro rfl;rw[h] at hb;cases hb
theorem Names.ik{e:Nat}{l:LV}(h:ρ.v e=none):ρ.le (ρ.fT e l):=by refine⟨λ_ _ h=>h,λi b hb=>?_,λ_ _ _ h=>h,λ_ _ _ h=>h⟩;show (if i=e then some l else ρ.v i)=some b;rw[Uv];exact hb;rintro rfl;rw[h] at hb;cases hb
theorem Names.bp{z:Nat->Nat->Value->Prop} : ρ.le (ρ.jW z):=⟨λ_ _ h=>h,λ_ _ h=>h,λ_ _ _ h=>h,λ_ _ _ h=>.inl h⟩
theorem Names.fR{n m:Nat} : (ρ.tL n m).n n=some m:=by simp[Names.tL]
theorem Names.aN{e:Nat}{l:LV} : (ρ.fT e l).v e=some l:=by simp[Names.fT]
theorem o4{n m k b:Nat}(h:bT (ρ.tL n m) k b):bT ρ k b∨(k=n∧b=m):=by rcases h with h|⟨e,l,o,h1,h2,h3,h4⟩|h;by_cases hk:k=n;subst hk;rw[Names.fR] at h;exact .inr ⟨rfl,(Oi h).symm⟩;simp only[Names.tL,Uv hk] at h;exact .inl (.inl h);exact .inl (.inr (.inl ⟨e,l,o,h1,h2,h3,h4⟩));exact .inl (.inr (.inr h))
theorem jI{e k b:Nat}{l:LV}(h:bT (ρ.fT e l) k b):bT ρ k b∨(k=l.o∧l.cap≠0∧∃o,l.a=some ⟨b,o,none⟩):=by rcases h with h|⟨e',l',o,h1,h2,h3,h4⟩|h;exact .inl (.inl h);by_cases he:e'=e;subst he;rw[Names.aN] at h1;obtain rfl:=Oi h1;exact .inr ⟨h2.symm,h3,o,h4⟩;simp only[Names.fT,Uv he] at h1;exact .inl (.inr (.inl ⟨e',l',o,h1,h2,h3,h4⟩));exact .inl (.inr (.inr h))
theorem zp{m:Nat}(hb:HB C ρ W)(hf:ρ.n nm=none)(g:Gr W W')(hm:W.heap.size<=m)(hm':m<W'.heap.size):WZ C ρ W nm (some nm) true (ρ.tL nm m) W':=by
 refine⟨Names.CZ hf,λn b h=>?_,λ_ _ h=>.inl h,λ_ _ _ h=>.inl h,λ_ _=>rfl,g.os,g.tape,g.output,g.size,λb hb _=>Below.block g b hb,?_⟩;by_cases hn:n=nm;subst hn;rw[Names.fR] at h;obtain rfl:=Oi h;exact .inr ⟨rfl,rfl,rfl,hm⟩;simp only[Names.tL,Uv hn] at h;exact .inl h;have h':=hb.gr g;refine⟨λn n' b h1 h2=>?_,λn b h=>?_,h'.zok,h'.grd⟩
 ·rcases o4 h1 with h1|⟨h1,k1⟩<;>rcases o4 h2 with h2|⟨h2,k2⟩
  exact hb.own n n' b h1 h2;have:=(hb.low n b h1).2;omega;have:=(hb.low n' b h2).2;omega;omega
 rcases o4 h with h|⟨rfl,rfl⟩
 exact h'.low n b h;exact⟨Nat.le_trans hb.grd.1 hm,hm'⟩
theorem eT{l:LV}(hb:HB C ρ W)(hf:ρ.v nm=none)(g:Gr W W')(hm:l.cap≠0->∀b o,l.a=some ⟨b,o,none⟩->W.heap.size<=b∧b<W'.heap.size):WZ C ρ W nm (some l.o) true (ρ.fT nm l) W':=by
 refine⟨Names.ik hf,λ_ _ h=>.inl h,λe l' h=>?_,λ_ _ _ h=>.inl h,λ_ _=>rfl,g.os,g.tape,g.output,g.size,λb hb _=>Below.block g b hb,?_⟩;by_cases hn:e=nm;subst hn;rw[Names.aN] at h;obtain rfl:=Oi h;exact .inr ⟨rfl,rfl,rfl,λb o h1 h2=>.inr (hm h2 b o h1).1⟩;simp only[Names.fT,Uv hn] at h;exact .inl h;have h':=hb.gr g;refine⟨λn n' b h1 h2=>?_,λn b h=>?_,h'.zok,h'.grd⟩
 ·rcases jI h1 with h1|⟨rfl,h1,o,h3⟩<;>rcases jI h2 with h2|⟨rfl,h2,o',h4⟩
  exact hb.own n n' b h1 h2;have:=(hb.low n b h1).2;have:=(hm h2 b o' h4).1;omega;have:=(hb.low n' b h2).2;have:=(hm h1 b o h3).1;omega;rfl
 rcases jI h with h|⟨rfl,h1,o,h3⟩
 exact h'.low n b h;exact⟨Nat.le_trans hb.grd.1 (hm h1 b o h3).1,(hm h1 b o h3).2⟩
theorem eA{w:World}{g b:Nat}{cs:Array Value}(h:b≠g):(w.setRow g cs).heap[b]? = w.heap[b]?:=by simp[World.setRow,Array.getElem?_modify,Ne.symm h]
theorem setRow_size{w:World}{g:Nat}{cs:Array Value} : (w.setRow g cs).heap.size=w.heap.size:=by simp[World.setRow]
theorem HB.row{n b:Nat}{cs:Array Value}(hb:HB C ρ W)(ho:bT ρ n b)(hz:∀i c,¬ρ.z b i c):HB C ρ (W.setRow b cs):=by
 have hl:=hb.low n b ho;refine⟨hb.own,λn b h=>by rw[setRow_size];exact hb.low n b h,λb' i c h=>?_,hb.grd.keep (Nat.le_of_eq setRow_size.symm) λb' We=>eA (by omega)⟩;have UR:b'≠b:=by rintro rfl;exact hz i c h
 exact⟨(cell_of_heap (eA UR)).trans (hb.zok b' i c h).1,(hb.zok b' i c h).2⟩
theorem my{n b:Nat}{cs:Array Value}(hb:HB C ρ W)(ho:bT ρ n b)(hz:∀i c,¬ρ.z b i c):WZ C ρ W nm (some n) false ρ (W.setRow b cs):=
 ⟨.refl _,λ_ _ h=>.inl h,λ_ _ h=>.inl h,λ_ _ _ h=>.inl h,λ_ _=>rfl,rfl,rfl,rfl,Nat.le_of_eq setRow_size.symm,λb' _ hn=>eA (by rintro rfl;exact hn n rfl ho),hb.row ho hz⟩
theorem zn{l:LV}{b o:Nat}{cs:Array Value}(hb:HB C ρ W)(hf:ρ.v nm=none)(ho:bT ρ l.o b)(hz:∀i c,¬ρ.z b i c)(hl:l.a=some ⟨b,o,none⟩):WZ C ρ W nm (some l.o) true (ρ.fT nm l) (W.setRow b cs):=by
 have e:=my (nm:=nm) (cs:=cs) hb ho hz;refine⟨Names.ik hf,λ_ _ h=>.inl h,λe l' h=>?_,λ_ _ _ h=>.inl h,λ_ _=>rfl,e.os,e.tape,e.output,e.size,e.block,?_⟩;by_cases hn:e=nm;subst hn;rw[Names.aN] at h;obtain rfl:=Oi h;refine .inr ⟨rfl,rfl,rfl,λb' o' h1 h2=>?_⟩;rw[hl] at h1;injection h1 with h1;injection h1 with h1;rw[<-h1];exact .inl ho;simp only[Names.fT,Uv hn] at h;exact .inl h;have key:∀k c,bT (ρ.fT nm l) k c->bT ρ k c:=λk c h=>by
  rcases jI h with h|⟨rfl,h1,o',h3⟩
  exact h;rw[hl] at h3;injection h3 with h3;injection h3 with h3;rw[<-h3];exact ho
 have h':=hb.row (cs:=cs) ho hz;exact⟨λn n' b h1 h2=>h'.own n n' b (key _ _ h1) (key _ _ h2),λn b h=>h'.low n b (key _ _ h),h'.zok,h'.grd⟩
theorem Fb{l:LV}(hb:HB C ρ W)(hf:ρ.v nm=none)(ho:l.cap≠0->∀b o,l.a=some ⟨b,o,none⟩->bT ρ l.o b):WZ C ρ W nm (some l.o) true (ρ.fT nm l) W:=by
 refine⟨Names.ik hf,λ_ _ h=>.inl h,λe l' h=>?_,λ_ _ _ h=>.inl h,λ_ _=>rfl,rfl,rfl,rfl,I' _,λ_ _ _=>rfl,?_⟩;by_cases hn:e=nm;subst hn;rw[Names.aN] at h;obtain rfl:=Oi h;exact .inr ⟨rfl,rfl,rfl,λb' o' h1 h2=>.inl (ho h2 b' o' h1)⟩;simp only[Names.fT,Uv hn] at h;exact .inl h;have key:∀k c,bT (ρ.fT nm l) k c->bT ρ k c:=λk c h=>by
  rcases jI h with h|⟨rfl,h1,o',h3⟩
  exact h;exact ho h1 c o' h3
 exact⟨λn n' b h1 h2=>hb.own n n' b (key _ _ h1) (key _ _ h2),λn b h=>hb.low n b (key _ _ h),hb.zok,hb.grd⟩
theorem wY{m:Nat}{l:List SV}{cs:List Value}{t:TypeId}(hb:HB C ρ W)(hf:ρ.n nm=none)(hm:W.heap.size<=m)(hd:aj ρ l cs)(h1:∀c∈cs,c.oneCell'=true)(hbl:WV W' m cs.toArray t):cS (ρ.tL nm m) W' nm (.lay l t):=
 ⟨m,cs,Names.fR,aE (Names.CZ hf) _ _ hd,hbl,h1,λi c hz=>by have:=iu (hb.zok m i c hz).1;omega⟩
theorem rS{l:List SV}{cs:List Value}{t:TypeId}{v:SV}{y:Value}(hb:HB C ρ W)(hf:ρ.n nm=none)(hd:aj ρ l cs)(h1:∀c∈cs,c.oneCell'=true)(hy:den (ρ.tL nm W.heap.size) v y) :
  fj C ρ W nm ⟨none,v,some (nm,.lay l t),true⟩ y (W.alloc (.cells cs.toArray t)):=by
 have g:Gr W (W.alloc (.cells cs.toArray t)):=(Gr.refl W).alloc _;refine⟨ρ.tL nm W.heap.size,zp hb hf g (I' _) (by simp),λn sb h=>?_,hy⟩;obtain⟨rfl,rfl⟩:=P' (Oi h);exact wY hb hf (I' _) hd h1 (WV.new rfl)
mutual
theorem lE:∀(x:SV) (v:Value),lF x=true->den ρ x v->den ρ.zo x v
 | .v _,_,_,h=>h
 | .il _ _,_,_,h=>h
 | .bl _,_,_,h=>h
 | .f fn x y,v,hp,⟨u,w,h1,h2,h3⟩=>by simp only[lF] at hp;split at hp;rename_i hx;exact⟨u,w,cu x u hx h1,cu y w hp h2,h3⟩;cases hp
 | .agg l,v,hp,⟨u,h1,h2⟩=>⟨u,cu l u hp h1,h2⟩
 | .tup l,v,hp,⟨u,h1,h2⟩=>⟨u,cu l u hp h1,h2⟩
 | .e,_,_,h=>h
 | .rs _ _ _,_,_,h=>h
 | .rp _ _,_,_,h=>h
theorem cu:∀(x:List SV) (v:List Value),da x=true->aj ρ x v->aj ρ.zo x v
 | [],_,_,h=>h
 | x::r,v,hp,⟨u,w,h1,h2,h3⟩=>by simp only[da] at hp;split at hp;rename_i hx;exact⟨u,w,h1,lE x u hx h2,cu r w hp h3⟩;cases hp
end
mutual
theorem lP{UL:Names} : ∀(x:SV) (v:Value),sO x=true->den ρ x v->den UL x v
 | .v _,_,_,h=>h
 | .il _ _,_,_,h=>h
 | .bl _,_,_,h=>h
 | .f fn x y,v,hp,⟨u,w,h1,h2,h3⟩=>by simp only[sO] at hp;split at hp;rename_i hx;exact⟨u,w,eB x u hx h1,eB y w hp h2,h3⟩;cases hp
 | .agg l,v,hp,⟨u,h1,h2⟩=>⟨u,eB l u hp h1,h2⟩
 | .tup l,v,hp,⟨u,h1,h2⟩=>⟨u,eB l u hp h1,h2⟩
 | .e,_,_,h=>h
theorem eB{UL:Names} : ∀(x:List SV) (v:List Value),gl x=true->aj ρ x v->aj UL x v
 | [],_,_,h=>h
 | x::r,v,hp,⟨u,w,h1,h2,h3⟩=>by simp only[gl] at hp;split at hp;rename_i hx;exact⟨u,w,h1,lP x u hx h2,eB r w hp h3⟩;cases hp
end
def zW(W:World):Names:=aD λb i c=>W.cell? ⟨b,i,none⟩=some c∧c.oneCell'=true
def zR(ρ:Names)(W:World):Names:=aD λb i c=>W.cell? ⟨b,i,none⟩=some c∧c.oneCell'=true∧(ρ.z b i c∨∃n,bT ρ n b)
theorem pU(hb:HB C ρ W):ρ.zo.le (zR ρ W):=⟨λ_ _ h=>(by cases h),λ_ _ h=>(by cases h),λ_ _ _ h=>(by cases h),λb i c h=>⟨(hb.zok b i c h).1,(hb.zok b i c h).2,.inl h⟩⟩
theorem GN:(zR ρ W).le (zW W):=⟨λ_ _ h=>(by cases h),λ_ _ h=>(by cases h),λ_ _ _ h=>(by cases h),λb i c h=>⟨h.1,h.2.1⟩⟩
theorem iF{l:List SV}{vs:List Value}(sz i:Nat)(h:aj ρ l vs):aj ρ (chunk l sz i) ((vs.drop (i*sz)).take sz):=cW _ (bP _ h)
theorem mi{m e sz N off n:Nat}{h:Nat->List SV}{t:TypeId}(hH:VQ C H ρ W)(hk:look H m=some (.lst e sz N h t)){v:Value}(hd:den ρ (.g m e sz off n) v) :
  ∃a' cap,v=.slice a' n cap∧n<=cap∧∀i,i<n->∃b o us,a'=some ⟨b,o,none⟩∧aj ρ.zo (h (off+i)) us∧us.length=sz∧(∀(k:Nat) (c:Value),us[k]? = some c->W.cell? ⟨b,o+i*sz+k,none⟩=some c∧c.oneCell'=true)∧bT ρ m b:=by
 obtain⟨l,h1,ho,h2,h3,a',rfl,h5⟩:=hd;refine⟨a',l.cap-off,rfl,by omega,λi hi=>?_⟩;obtain⟨b,k1,rfl⟩:=h5 (by omega);obtain⟨b',us,e1,e2,e3,e4,e5⟩:=wz (off:=0) (i:=off+i) hH hk ⟨l,b,h1,ho,by omega,h3,k1,rfl⟩;obtain rfl:b=b':=by injection e1 with e1;injection e1 with e1;injection e1
 refine⟨b,off*sz,us,rfl,e2,e3,λk c hc=>?_,e5⟩;rw[<-Nat.add_mul];exact e4 k c hc
theorem o7{m e sz N p Vb off n:Nat}{h:Nat->List SV}{g:Nat->Nat×(Nat->List SV)}{tk t:TypeId}(hH:VQ C H ρ W)(hk:look H m=some (.nst e sz N h p Vb g tk t none)){v:Value}(hd:den ρ (.g m e sz off n) v) :
  ∃a' cap,v=.slice a' n cap∧n<=cap∧∀i,i<n->∃b o us q,a'=some ⟨b,o,none⟩∧ρ.k m (off+i)=some q∧q.N=(g (off+i)).1∧eX ρ W q Vb (g (off+i)).2 tk∧aj ρ.zo ((h (off+i)).set p (.v (.slice q.a q.N q.cap))) us∧us.length=sz∧(∀(k:Nat) (c:Value),us[k]? = some c->W.cell? ⟨b,o+i*sz+k,none⟩=some c∧c.oneCell'=true)∧bT ρ m b:=by
 obtain⟨l,h1,ho,h2,h3,a',rfl,h5⟩:=hd;refine⟨a',l.cap-off,rfl,by omega,λi hi=>?_⟩;obtain⟨b,k1,rfl⟩:=h5 (by omega);obtain⟨b',us,q,e1,f1,f2,f3,e2,e3,e4,e5⟩:=v7 (off:=0) (i:=off+i) hH hk ⟨l,b,h1,ho,by omega,h3,k1,rfl⟩;obtain rfl:b=b':=by injection e1 with e1;injection e1 with e1;injection e1
 refine⟨b,off*sz,us,q,rfl,f1,f2,f3,e2,e3,λk c hc=>?_,e5⟩;rw[<-Nat.add_mul];exact e4 k c hc
theorem pe{m e sz N p Vb i off n:Nat}{h:Nat->List SV}{g:Nat->Nat×(Nat->List SV)}{tk t:TypeId}(hH:VQ C H ρ W)(hk:look H m=some (.nst e sz N h p Vb g tk t none)){v:Value}(hd:den ρ (.kd m i Vb off n) v) :
  ∃a' cap,v=.slice a' n cap∧n<=cap∧∀j,j<n->∃b o us,a'=some ⟨b,o,none⟩∧aj ρ.zo ((g i).2 (off+j)) us∧us.length=Vb∧(∀(k:Nat) (c:Value),us[k]? = some c->W.cell? ⟨b,o+j*Vb+k,none⟩=some c∧c.oneCell'=true)∧bT ρ m b:=by
 obtain⟨l,h1,h2,h3,a',rfl,h5⟩:=hd;refine⟨a',l.cap-off,rfl,by omega,λj hj=>?_⟩;obtain⟨b,k1,rfl⟩:=h5 (by omega);obtain⟨b',us,e1,f1,f2,e2,e3,e4,e5⟩:=wD (off:=0) (j:=off+j) hH hk ⟨l,b,h1,by omega,h3,k1,rfl⟩;obtain rfl:b=b':=by injection e1 with e1;injection e1 with e1;injection e1
 refine⟨b,off*Vb,us,rfl,e2,e3,λk c hc=>?_,e5⟩;rw[<-Nat.add_mul];exact e4 k c hc
theorem OB{Z:Nat->Nat->Value->Prop}{m i Vb n:Nat}{q:LV}{f f':Nat->List SV}{tk:TypeId}(h1:ρ.k m i=some q)(h2:q.N=n)(h3:eX ρ W q Vb f tk)
  (hZ:∀b i c,W.cell? ⟨b,i,none⟩=some c->c.oneCell'=true->bT ρ m b->Z b i c) (hf:∀j,j<n->∀us,aj ρ.zo (f j) us->aj (aD Z) (f' j) us):den (aD Z) (.rs Vb n f') (.slice q.a q.N q.cap):=by
 obtain⟨h3,h4⟩:=h3;refine⟨q.a,q.cap,by rw[h2],by omega,λj hj=>?_⟩;obtain⟨b,u,k1,k2,k3,k4,k5,k6⟩:=h4 (by omega);obtain⟨us,p1,p2,p3⟩:=k6 j (by omega);refine⟨b,0,us,k1,hf j hj us p1,p2,λk c hc=>?_⟩;have:=p3 k c hc;rw[B'];exact hZ b _ c (by rw[k2.cell];simpa using this) (k4 c (UF this)) (.inr (.inr ⟨i,q,0,h1,by omega,k1⟩))
theorem Uf{Z:Nat->Nat->Value->Prop}{m Vb n:Nat}{q:LV}{f f':Nat->List SV}{tk:TypeId}(h1:∀b,q.cap≠0->q.a=some ⟨b,0,none⟩->bT ρ m b)(h2:q.N=n)(h3:eX ρ W q Vb f tk)
  (hZ:∀b i c,W.cell? ⟨b,i,none⟩=some c->c.oneCell'=true->bT ρ m b->Z b i c) (hf:∀j,j<n->∀us,aj ρ.zo (f j) us->aj (aD Z) (f' j) us):den (aD Z) (.rs Vb n f') (.slice q.a q.N q.cap):=by
 obtain⟨h3,h4⟩:=h3;refine⟨q.a,q.cap,by rw[h2],by omega,λj hj=>?_⟩;obtain⟨b,u,k1,k2,k3,k4,k5,k6⟩:=h4 (by omega);obtain⟨us,p1,p2,p3⟩:=k6 j (by omega);refine⟨b,0,us,k1,hf j hj us p1,p2,λk c hc=>?_⟩;have:=p3 k c hc;rw[B'];exact hZ b _ c (by rw[k2.cell];simpa using this) (k4 c (UF this)) (h1 b (by omega) k1)
theorem v8{Z:Nat->Nat->Value->Prop}{m p Vb i:Nat}{q:LV}{h:Nat->List SV}{g:Nat->Nat×(Nat->List SV)}{tk:TypeId}{us:List Value}(h1:ρ.k m i=some q)(h2:q.N=(g i).1)(h3:eX ρ W q Vb (g i).2 tk)
  (hZ:∀b i c,W.cell? ⟨b,i,none⟩=some c->c.oneCell'=true->bT ρ m b->Z b i c) (hle:ρ.zo.le (aD Z)) (hd:aj ρ.zo ((h i).set p (.v (.slice q.a q.N q.cap))) us):aj (aD Z) (EL h p Vb g i) us:=
 pH (p:=0) (λv hv=>by obtain rfl:v=_:=hv;exact OB h1 h2 h3 hZ λj _ us hu=>aE hle _ _ hu) (aE hle _ _ hd)
mutual
theorem Qf{rec:List SV->Option (List SV)}(hH:VQ C H ρ W)(VW:∀l l' vs,rec l=some l'->aj ρ l vs->aj (zR ρ W) l' vs):∀(x x':SV) (v:Value),fzS rec H x=some x'->den ρ x v->den (zR ρ W) x' v
 | .v _,_,_,hx,h=>by obtain rfl:=Oi hx;exact h
 | .il _ _,_,_,hx,h=>by obtain rfl:=Oi hx;exact h
 | .bl _,_,_,hx,h=>by obtain rfl:=Oi hx;exact h
 | .e,_,_,hx,h=>by obtain rfl:=Oi hx;exact h
 | .rs sz n f,_,v,hx,h=>by obtain rfl:=Oi hx;exact bE (pU hH.hb) _ _ (lE _ _ rfl h)
 | .rp x off,_,v,hx,h=>by obtain rfl:=Oi hx;exact bE (pU hH.hb) _ _ (lE _ _ rfl h)
 | .p n off,x',v,hx,h=>by simp only[fzS] at hx;split at hx;rename_i cs t hl;split at hx;rename_i l hr;obtain rfl:=Oi hx;obtain⟨b,e1,e2⟩:=h;obtain⟨b',vs,k1,k2,k3,k4,k5⟩:=hH.blk n _ hl;rw[e1] at k1;obtain rfl:=Oi k1;refine⟨b,0,vs,by rw[B'];exact e2,VW _ _ _ hr k2,λk c hc=>⟨?_,k4 c (UF hc),.inr ⟨n,.inl e1⟩⟩⟩;rw[B',k3.cell];simpa using hc;cases hx;cases hx
 | .s n sz off len cap,x',v,hx,h=>by simp only[fzS] at hx;split at hx;rename_i cs t hl;split at hx;rename_i l hr;split at hx;rename_i b1 b2;have b1:=L' b1;have b2:=L' b2;obtain rfl:=Oi hx;obtain⟨b,e1,e2⟩:=h;obtain⟨b',vs,k1,k2,k3,k4,k5⟩:=hH.blk n _ hl;rw[e1] at k1;obtain rfl:=Oi k1;have hd:=VW _ _ _ hr k2;have hlen:=aB hd;refine⟨_,_,e2,b2,λi hi=>⟨b,off,_,rfl,iF sz i (bP off hd),?_,λk c hc=>?_⟩⟩;have:i*sz+sz<=len*sz:=(by rw[<-Nat.succ_mul];exact Uz _ hi);simp only[List.length_take,List.length_drop];omega;rw[List.getElem?_take] at hc;split at hc;rw[List.getElem?_drop,List.getElem?_drop] at hc;refine⟨?_,k4 c (UF hc),.inr ⟨n,.inl e1⟩⟩;rw[k3.cell];simpa[Nat.add_assoc] using hc;cases hc;cases hx;cases hx;cases hx
 | .g m e sz off n,x',v,hx,h=>by simp only[fzS] at hx;split at hx;rename_i e' U9 N hh t hl;split at hx;rename_i b1 b2;have b1:=Nb b1;have b2:=Nb b2;subst b1 b2;obtain rfl:=Oi hx;obtain⟨a',cap,e1,e2,e3⟩:=mi hH hl h;exact⟨a',cap,e1,e2,λi hi=>let ⟨b,o,us,k1,k2,k3,k4,k5⟩:=e3 i hi;⟨b,o,us,k1,aE (pU hH.hb) _ _ k2,k3,λk c hc=>⟨(k4 k c hc).1,(k4 k c hc).2,.inr ⟨_,k5⟩⟩⟩⟩;cases hx;rename_i e' U9 N hh p Vb g tk t hl;split at hx;rename_i b1 b2;have b1:=Nb b1;have b2:=Nb b2;subst b1 b2;obtain rfl:=Oi hx;obtain⟨a',cap,e1,e2,e3⟩:=o7 hH hl h;exact⟨a',cap,e1,e2,λi hi=>let ⟨b,o,us,q,k1,f1,f2,f3,k2,k3,k4,k5⟩:=e3 i hi;⟨b,o,us,k1,v8 f1 f2 f3 (λb i c h1 h2 h3=>⟨h1,h2,.inr ⟨_,h3⟩⟩) (pU hH.hb) k2,k3,λk c hc=>⟨(k4 k c hc).1,(k4 k c hc).2,.inr ⟨_,k5⟩⟩⟩⟩;cases hx;cases hx
 | .gp m e sz i off,x',v,hx,h=>by simp only[fzS] at hx;split at hx;rename_i e' U9 N hh t hl;split at hx;rename_i b1 b2;have b1:=Nb b1;have b2:=Nb b2;subst b1 b2;obtain rfl:=Oi hx;obtain⟨b,us,e1,e2,e3,e4,e5⟩:=wz hH hl h;exact⟨b,i*sz,us,e1,aE (pU hH.hb) _ _ e2,λk c hc=>⟨(e4 k c hc).1,(e4 k c hc).2,.inr ⟨_,e5⟩⟩⟩;cases hx;rename_i e' U9 N hh p Vb g tk t hl;split at hx;rename_i b1 b2;have b1:=Nb b1;have b2:=Nb b2;subst b1 b2;obtain rfl:=Oi hx;obtain⟨b,us,q,e1,f1,f2,f3,e2,e3,e4,e5⟩:=v7 hH hl h;exact⟨b,i*sz,us,e1,v8 f1 f2 f3 (λb i c h1 h2 h3=>⟨h1,h2,.inr ⟨_,h3⟩⟩) (pU hH.hb) e2,λk c hc=>⟨(e4 k c hc).1,(e4 k c hc).2,.inr ⟨_,e5⟩⟩⟩;cases hx;cases hx
 | .kd m i sz off n,x',v,hx,h=>by simp only[fzS] at hx;split at hx;rename_i e esz N hh p g tk t hl;obtain rfl:=Oi hx;obtain⟨a',cap,e1,e2,e3⟩:=pe hH (ot hl) h;exact⟨a',cap,e1,e2,λi hi=>let ⟨b,o,us,k1,k2,k3,k4,k5⟩:=e3 i hi;⟨b,o,us,k1,aE (pU hH.hb) _ _ k2,k3,λk c hc=>⟨(k4 k c hc).1,(k4 k c hc).2,.inr ⟨_,k5⟩⟩⟩⟩;cases hx
 | .kq m i sz j off,x',v,hx,h=>by simp only[fzS] at hx;split at hx;rename_i e esz N hh p g tk t hl;obtain rfl:=Oi hx;obtain⟨b,us,e1,f1,f2,e2,e3,e4,e5⟩:=wD hH (ot hl) h;exact⟨b,j*sz,us,e1,aE (pU hH.hb) _ _ e2,λk c hc=>⟨(e4 k c hc).1,(e4 k c hc).2,.inr ⟨_,e5⟩⟩⟩;cases hx
 | .f fn x y,x',v,hx,⟨u,w,h1,h2,h3⟩=>by simp only[fzS] at hx;split at hx;rename_i p q hp hq;obtain rfl:=Oi hx;exact⟨u,w,nI hH VW x p u hp h1,nI hH VW y q w hq h2,h3⟩;cases hx
 | .m _,_,_,hx,_=>by cases hx
 | .agg l,x',v,hx,⟨u,h1,h2⟩=>by simp only[fzS] at hx;split at hx;rename_i p hp;obtain rfl:=Oi hx;exact⟨u,nI hH VW l p u hp h1,h2⟩;cases hx
 | .tup l,x',v,hx,⟨u,h1,h2⟩=>by simp only[fzS] at hx;split at hx;rename_i p hp;obtain rfl:=Oi hx;exact⟨u,nI hH VW l p u hp h1,h2⟩;cases hx
theorem nI{rec:List SV->Option (List SV)}(hH:VQ C H ρ W)(VW:∀l l' vs,rec l=some l'->aj ρ l vs->aj (zR ρ W) l' vs):∀(x x':List SV) (v:List Value),fzL rec H x=some x'->aj ρ x v->aj (zR ρ W) x' v
 | [],_,_,hx,h=>by obtain rfl:=Oi hx;exact h
 | x::r,x',v,hx,⟨u,w,h1,h2,h3⟩=>by simp only[fzL] at hx;split at hx;rename_i p q hp hq;obtain rfl:=Oi hx;exact⟨u,w,h1,Qf hH VW x p u hp h2,nI hH VW r q w hq h3⟩;cases hx
end
theorem sK(hH:VQ C H ρ W):∀(k:Nat) (l l':List SV) (vs:List Value),fzK H k l=some l'->aj ρ l vs->aj (zR ρ W) l' vs
 | 0,l,l',vs,h,hd=>nI hH (λ_ _ _ h _=>by cases h) l l' vs h hd
 | k+1,l,l',vs,h,hd=>nI hH (λl l' vs h hd=>sK hH k l l' vs h hd) l l' vs h hd
theorem yS{UL:Names}{x y:SV}(hxy:∀v,den ρ x v->den UL y v):∀{l:List SV} {i:Nat} {us:List Value},gl (l.set i .e)=true->aj ρ (l.set i x) us->aj UL (l.set i y) us
 | [],i,us,_,h=>h
 | z::r,0,us,hf,h=>by obtain⟨a,b,e,h1,h2⟩:=aJ h;simp only[List.set_cons_zero,gl,sO] at hf;exact⟨a,b,e,hxy _ h1,eB _ _ hf h2⟩
 | z::r,i+1,us,hf,h=>by obtain⟨a,b,e,h1,h2⟩:=aJ h;simp only[List.set_cons_succ,gl] at hf;split at hf;rename_i hz;exact⟨a,b,e,lP _ _ hz h1,yS hxy hf h2⟩;cases hf
def zO(ρ:Names)(W:World):Names:=aD λb i c=>W.cell? ⟨b,i,none⟩=some c∧c.oneCell'=true∧∃n,bT ρ n b
mutual
theorem I5(hH:VQ C H ρ W):∀(x x':SV) (ps:List Prop) (v:Value),frS H x=some (x',ps)->aH ps->den ρ x v->den (zO ρ W) x' v
 | .v _,_,_,_,hx,_,h=>by obtain⟨rfl,-⟩:=P' (Oi hx);exact h
 | .il _ _,_,_,_,hx,_,h=>by obtain⟨rfl,-⟩:=P' (Oi hx);exact h
 | .bl _,_,_,_,hx,_,h=>by obtain⟨rfl,-⟩:=P' (Oi hx);exact h
 | .e,_,_,_,hx,_,h=>by obtain⟨rfl,-⟩:=P' (Oi hx);exact h
 | .rs sz n f,_,_,v,hx,_,h=>by cases hx
 | .rp x off,_,_,v,hx,_,h=>by cases hx
 | .p n off,x',_,v,hx,_,h=>by cases hx
 | .gp m e sz i off,x',_,v,hx,_,h=>by cases hx
 | .f fn x y,x',_,v,hx,_,_=>by cases hx
 | .m _,_,_,_,hx,_,_=>by cases hx
 | .kd _ _ _ _ _,_,_,_,hx,_,_=>by cases hx
 | .kq _ _ _ _ _,_,_,_,hx,_,_=>by cases hx
 | .s n sz off len cap,x',ps,v,hx,_,h=>by simp only[frS] at hx;split at hx;rename_i cs t hl;split at hx;rename_i b1 b2 b3;have b1:=L' b1;have b2:=L' b2;obtain⟨rfl,-⟩:=P' (Oi hx);obtain⟨b,e1,e2⟩:=h;obtain⟨b',vs,k1,k2,k3,k4,k5⟩:=hH.blk n _ hl;rw[e1] at k1;obtain rfl:=Oi k1;have hd:aj (zO ρ W).zo cs vs:=eB _ _ b3 k2;have hlen:=aB hd;refine⟨_,_,e2,b2,λi hi=>⟨b,off,_,rfl,iF sz i (bP off hd),?_,λk c hc=>?_⟩⟩;have:i*sz+sz<=len*sz:=(by rw[<-Nat.succ_mul];exact Uz _ hi);simp only[List.length_take,List.length_drop];omega;rw[List.getElem?_take] at hc;split at hc;rw[List.getElem?_drop,List.getElem?_drop] at hc;refine⟨?_,k4 c (UF hc),n,.inl e1⟩;rw[k3.cell];simpa[Nat.add_assoc] using hc;cases hc;cases hx;cases hx
 | .g m e sz off n,x',ps,v,hx,hp,h=>by simp only[frS] at hx;split at hx;rename_i e' U9 N hh t hl;split at hx;rename_i b1 b2;have b1:=Nb b1;have b2:=Nb b2;subst b1 b2;obtain⟨rfl,rfl⟩:=P' (Oi hx);have hp:∀i,i<n->gl (hh (off+i))=true:=hp;obtain⟨a',cap,e1,e2,e3⟩:=mi hH hl h;exact⟨a',cap,e1,e2,λi hi=>let ⟨b,o,us,k1,k2,k3,k4,k5⟩:=e3 i hi;⟨b,o,us,k1,eB _ _ (hp i hi) k2,k3,λk c hc=>⟨(k4 k c hc).1,(k4 k c hc).2,_,k5⟩⟩⟩;cases hx;rename_i e' U9 N hh p Vb g tk t hl;split at hx;rename_i b1 b2;have b1:=Nb b1;have b2:=Nb b2;subst b1 b2;obtain⟨rfl,rfl⟩:=P' (Oi hx);obtain⟨hp1,hp2⟩:(∀i,i<n->gl ((hh (off+i)).set p .e)=true)∧∀i,i<n->∀j,j<(g (off+i)).1->gl ((g (off+i)).2 j)=true:=hp;obtain⟨a',cap,e1,e2,e3⟩:=o7 hH hl h;exact⟨a',cap,e1,e2,λi hi=>let ⟨b,o,us,q,k1,f1,f2,f3,k2,k3,k4,k5⟩:=e3 i hi;⟨b,o,us,k1,yS (λv hv=>by obtain rfl:v=_:=hv;exact OB f1 f2 f3 (λb i c h1 h2 h3=>⟨h1,h2,_,h3⟩) λj hj us hu=>eB _ _ (hp2 i hi j hj) hu) (hp1 i hi) k2,k3,λk c hc=>⟨(k4 k c hc).1,(k4 k c hc).2,_,k5⟩⟩⟩;cases hx;cases hx
 | .agg l,x',ps,v,hx,hp,⟨u,h1,h2⟩=>by simp only[frS] at hx;split at hx;rename_i p ps' hq;obtain⟨rfl,rfl⟩:=P' (Oi hx);exact⟨u,Bq hH l p _ u hq hp h1,h2⟩;cases hx
 | .tup l,x',ps,v,hx,hp,⟨u,h1,h2⟩=>by simp only[frS] at hx;split at hx;rename_i p ps' hq;obtain⟨rfl,rfl⟩:=P' (Oi hx);exact⟨u,Bq hH l p _ u hq hp h1,h2⟩;cases hx
theorem Bq(hH:VQ C H ρ W):∀(x x':List SV) (ps:List Prop) (v:List Value),frL H x=some (x',ps)->aH ps->aj ρ x v->aj (zO ρ W) x' v
 | [],_,_,_,hx,_,h=>by obtain⟨rfl,-⟩:=P' (Oi hx);exact h
 | x::r,x',_,v,hx,hp,⟨u,w,h1,h2,h3⟩=>by simp only[frL] at hx;split at hx;rename_i p ps1 q ps2 hp1 hq1;obtain⟨rfl,rfl⟩:=P' (Oi hx);obtain⟨c1,c2⟩:=bV hp;exact⟨u,w,h1,I5 hH x p ps1 u hp1 c1 h2,Bq hH r q ps2 w hq1 c2 h3⟩;cases hx
end
theorem Jo{W':World}{UL:Names}{wn:Option Nat}{fr:Bool}{z:Nat->Nat->Value->Prop}(e:WZ C ρ W nm wn fr UL W')(hz:∀b i c,z b i c->(ρ.z b i c∨W.heap.size<=b)∧W'.cell? ⟨b,i,none⟩=some c∧c.oneCell'=true):WZ C ρ W nm wn fr (UL.jW z) W':=
 ⟨e.le.trans Names.bp,e.nn,e.nv,λb i c h=>by
  rcases h with h|h;exact e.nz b i c h;exact(hz b i c h).1,e.nk,e.os,e.tape,e.output,e.size,e.block,⟨e.hb.own,e.hb.low,λb i c h=>by
  rcases h with h|h;exact e.hb.zok b i c h
  ·exact(hz b i c h).2,e.hb.grd⟩⟩
theorem CM{W':World}{val:Value}{sz n:Nat}{f:Nat->List SV}{t:TypeId}{z:Nat->Nat->Value->Prop}(hH:VQ C H ρ W)(hf:ρ.v nm=none)(g:Gr W W')(hz:∀b i c,z b i c->(ρ.z b i c∨W.heap.size<=b)∧W'.cell? ⟨b,i,none⟩=some c∧c.oneCell'=true)(h:Ga z W W' val sz n f t) :
  ∃UL,WZ C ρ W nm (some nm) true UL W'∧cS UL W' nm (.lst nm sz n f t)∧den UL (.g nm nm sz 0 n) val:=by
 obtain⟨a',cap,z2,YX,rfl,h1,h2⟩:=h;refine⟨(ρ.fT nm ⟨nm,a',cap,n⟩).jW z2,Jo (eT (l:=⟨nm,a',cap,n⟩) hH.hb hf g (λhc b o hb=>?_)) (λb i c h=>hz b i c (YX b i c h)),?_,⟨nm,a',cap,n⟩,Names.aN,rfl,by simp,h1,a',by simp,λhc=>?_⟩;obtain⟨b',u,k1,k2,k3,-⟩:=h2 hc;have hb:a'=some ⟨b,o,none⟩:=hb;rw[k1] at hb;injection hb with hb;injection hb with hb;subst hb;have k3:W'.heap[b']? = some (.cells u.toArray t (0,0)):=k3;exact⟨k2,(E'.1 k3).1⟩;refine⟨_,Names.aN,rfl,rfl,h1,λhc=>?_⟩;obtain⟨b',u,k1,k2,k3,k4,k5,k7,k6⟩:=h2 hc;refine⟨b',u,k1,k3,k4,k5,λi c hz=>?_,λi hi=>let ⟨us,q1,q2⟩:=k6 i hi;⟨us,aE (ρ:=aD z2) ⟨λ_ _ h=>(by cases h),λ_ _ h=>(by cases h),λ_ _ _ h=>(by cases h),λb i c h=>(Or.inr h:ρ.z b i c∨z2 b i c)⟩ _ _ q1,q2⟩⟩;rcases hz with hz|hz;have:=iu (hH.hb.zok b' i c hz).1;omega;exact k7 i c hz;obtain⟨b',u,k1,-⟩:=h2 (by simpa using hc);exact⟨b',k1,by rw[k1];simp⟩
theorem K9(hH:VQ C H ρ W){con:UO C}{al:List SV}{vs:List Value}{r:DR}(hf:r.fr=true->ρ.v nm=none)(hD:O4 con H nm al=some r)(ho:r.Ob)(hd:aj ρ al vs) :
  br C.P C.co con.f vs.toArray W λe W'=>∃val,e=.returned val∧fj C ρ W nm r val W':=by
 unfold O4 at hD;split at hD;rename_i t how;split at hD;rename_i Zc YS;split at hD;rename_i ob out hr;obtain⟨ze,he1,he2,he3⟩:∃ze:Nat->Nat->Value->Prop,(∀b i c,ze b i c->W.cell? ⟨b,i,none⟩=some c∧c.oneCell'=true)∧aj (aD ze) Zc vs∧∀z':Nat->Nat->Value->Prop,(∀b i c,z' b i c->ze b i c∨W.heap.size<=b)->(con.fresh=true->∀b i c,z' b i c->W.heap.size<=b)->∀b i c,z' b i c->ρ.z b i c∨W.heap.size<=b:=(by split at YS;rename_i hp;obtain rfl:=Oi YS;exact⟨ρ.z,hH.hb.zok,cu _ _ hp hd,λz' h _=>h⟩;split at YS;rename_i WX;exact⟨_,λb i c h=>h,aE GN _ _ (sK hH 3 al Zc vs YS hd),λz' _ h b i c hz=>.inr (h WX b i c hz)⟩;cases YS);split at hD;rename_i sz n f;obtain rfl:=Oi hD;refine(con.ok ze W Zc vs ob _ hH.hb.grd he1 he2 hr ho).mono ?_;rintro e W' ⟨val,z',rfl,g,hz1,-,YX,V7⟩;obtain⟨UL,e1,e2,e3⟩:=CM hH (hf rfl) g (λb i c h=>⟨he3 z' (λb i c h=>(hz1 b i c h).1) YX b i c h,(hz1 b i c h).2⟩) (V7 t how);exact⟨_,rfl,UL,e1,λm sb hm=>by obtain⟨rfl,rfl⟩:=P' (Oi hm);exact e2,e3⟩;rename_i x sz n f;obtain rfl:=Oi hD;refine(con.ok ze W Zc vs ob _ hH.hb.grd he1 he2 hr ho).mono ?_;rintro e W' ⟨val,z',rfl,g,hz1,-,YX,V7⟩;obtain⟨u,v,rfl,hx,hl⟩:∃u v,val=.agg #[u,v]∧den qS x u∧Ga z' W W' v sz n f t:=V7 t how;obtain⟨UL,e1,e2,e3⟩:=CM hH (hf rfl) g (λb i c h=>⟨he3 z' (λb i c h=>(hz1 b i c h).1) YX b i c h,(hz1 b i c h).2⟩) hl;exact⟨_,rfl,UL,e1,λm sb hm=>by obtain⟨rfl,rfl⟩:=P' (Oi hm);exact e2,[u,v],⟨u,[v],rfl,bE (sn _) _ _ hx,v,[],rfl,e3,rfl⟩,rfl⟩;cases hD;cases hD;cases hD;rename_i hownN;clear hownN;split at hD
 ·rename_i hp;split at hD
  ·rename_i ob out hr;obtain rfl:=Oi hD;refine(con.ok ρ.z W al vs ob out hH.hb.grd hH.hb.zok (cu _ _ hp hd) hr ho).mono ?_;rintro e W' ⟨val,z',rfl,g,hz,hv,-,-⟩;refine⟨val,rfl,ρ.jW z',⟨Names.bp,λ_ _ h=>.inl h,λ_ _ h=>.inl h,λb i c h=>?_,λ_ _=>rfl,g.os,g.tape,g.output,g.size,λb hb _=>Below.block g b hb,?_⟩,(λn sb h=>by cases h),bE (ρ:=aD z') ⟨λ_ _ h=>(by cases h),λ_ _ h=>(by cases h),λ_ _ _ h=>(by cases h),λb i c h=>(Or.inr h:ρ.z b i c∨z' b i c)⟩ _ _ hv⟩;rcases h with h|h;exact .inl h;exact(hz b i c h).1;have h':=hH.hb.gr g;exact⟨h'.own,h'.low,λb i c h=>by
    rcases h with h|h;exact h'.zok b i c h
    ·exact(hz b i c h).2,h'.grd⟩
  cases hD
 split at hD
 ·rename_i Zc YS;split at hD
  ·rename_i ob out hr;split at hD
   ·rename_i WX;obtain rfl:=Oi hD;refine(con.ok _ W Zc vs ob out hH.hb.grd (λb i c h=>h) (aE GN _ _ (sK hH 3 al Zc vs YS hd)) hr ho).mono ?_;rintro e W' ⟨val,z',rfl,g,hz,hv,hf,-⟩;refine⟨val,rfl,ρ.jW z',⟨Names.bp,λ_ _ h=>.inl h,λ_ _ h=>.inl h,λb i c h=>?_,λ_ _=>rfl,g.os,g.tape,g.output,g.size,λb hb _=>Below.block g b hb,?_⟩,(λn sb h=>by cases h),bE (ρ:=aD z') ⟨λ_ _ h=>(by cases h),λ_ _ h=>(by cases h),λ_ _ _ h=>(by cases h),λb i c h=>(Or.inr h:ρ.z b i c∨z' b i c)⟩ _ _ hv⟩;rcases h with h|h;exact .inl h;exact .inr (hf WX b i c h);have h':=hH.hb.gr g;exact⟨h'.own,h'.low,λb i c h=>by
     rcases h with h|h;exact h'.zok b i c h
     ·exact(hz b i c h).2,h'.grd⟩
   split at hD;rename_i Yq;obtain rfl:=Oi hD;refine(con.ok _ W Zc vs ob out hH.hb.grd (λb i c h=>h) (aE GN _ _ (sK hH 3 al Zc vs YS hd)) hr ho).mono ?_;rintro e W' ⟨val,z',rfl,g,hz,hv,-,-⟩;exact⟨val,rfl,vR hH.hb g ⟨rfl,rfl,lP _ _ Yq hv⟩⟩;cases hD
  cases hD
 cases hD
end
end Go.Proofs.YtgigkennhdolpaaGreatDoor
