/- A symbolic executor with lists. -/
import Derived.Test.YtmdpdknpapjchaaGreatDoorM10
set_option linter.all false
namespace Go.Proofs.YtmdpdknpapjchaaGreatDoor
open Go.RowKit
variable {parts:Array (Nat×Operand)}{after:Array Edge}{r:DR}{q:LV}{zs:List Value}{N Yf e m n off sz:Nat}{h:Nat->List SV}{guard:Option (Nat×Bool)}{dst:Option Tmp}{P:Program}{x:SV}{pos:String}{k:TK}{t tk ty:TypeId}{i:TypeInfo}{v z:Value}{w:World}
theorem bO(b o m:Nat):(⟨b,o,none⟩:Addr).add m=⟨b,o+m,none⟩:=by unfold Addr.add;split<;>simp_all
section
variable {PP:Program}{C:Cx PP}{op:OpF}{a:Act}{ρ:Names}{W:World}{H:aU}{nm:Nat}
def lS(op:OpF)(a:Act)(ρ:Names):Prop:=∀ex x v,op ex x=some v->(∀p∈ex,a.eval (.tmp p.1)=.bool p.2)->den ρ v (a.eval x)
theorem lS.get(h:lS op a ρ){x:Operand}{v:SV}(e:op [] x=some v):den ρ v (a.eval x):=h [] x v e λ_ hp=>by cases hp
theorem J2(h:lS op a ρ):∀{l:List Operand} {vs:List SV},opL op l=some vs->au ρ vs (l.map a.eval)
 | [],vs,e=>by obtain rfl:=Oi e;rfl
 | x::r,vs,e=>by simp only[opL] at e;split at e;rename_i u v hu hv;obtain rfl:=Oi e;exact aN (h.get hu) (J2 h hv);cases e
theorem ik(h:lS op a ρ){args:Array Operand}{vs:List SV}(e:opL op args.toList=some vs):au ρ vs (args.map a.eval).toList:=by have:=J2 h e;simpa using this
theorem xJ{W':World}(hb:HB C ρ W)(g:Gr W W')(h:Yields r ρ v):eB C ρ W nm r v W':=by obtain⟨h1,h2,h3⟩:=h;refine⟨ρ,?_,?_,h3⟩;rw[h1,h2];exact ZB.rm hb g;rw[h1];intro n sb hn;cases hn
theorem dj(hb:HB C ρ W)(h:Yields r ρ v):eB C ρ W nm r v W:=xJ hb (Gr.refl W) h
theorem bp{v:SV}{y:Value}(h:dv v=some r)(hd:den ρ v y):Yields r ρ y:=by obtain rfl:=Oi h;exact⟨rfl,rfl,hd⟩
theorem cU{p:Prop}{v:SV}{y:Value}(h:dvo p v=some r)(hd:den ρ v y):Yields r ρ y:=by obtain rfl:=Oi h;exact⟨rfl,rfl,hd⟩
theorem ia{p:Prop}{v:SV}(h:dvo p v=some r)(ho:r.Ob):p:=by obtain rfl:=Oi h;exact ho
theorem iS{x:Option SV}(h:od x=some r):∃v,x=some v∧dv v=some r:=by
 cases x with
 | none=>cases h
 | some v=>exact⟨v,rfl,h⟩
theorem mD{d:TypeDesc}(hk:aX d k=true)(ha:iM k=true):(∃fs,d=.struct fs)∨∃n e,d=.array n e:=by cases d<;>cases k<;>simp_all [aX,iM]
theorem im{d:TypeDesc}(hk:aX d k=true)(ha:iM k=false):(∀fs,d≠.struct fs)∧∀n e,d≠.array n e:=by refine⟨λfs e=>?_,λn e' e=>?_⟩<;>subst e<;>cases k<;>simp_all [aX,iM]
theorem kE{cs:List SV}{v:SV}{b o:Nat}{vs:List Value}{x:Operand}(h:rv C cs off t=some v)(hd:au ρ cs vs)(hb:∀(i:Nat) (c:Value),vs[i]? = some c->W.cell? ⟨b,o+i,none⟩=some c)(hx:a.eval x=.pointer (some ⟨b,o+off,none⟩)) :
  ∃u,den ρ v u∧(execOp a.eval ⟨dst,.load t x,ty,pos,after,guard⟩).run C.P W=.ok (.value u) W:=by
 unfold rv at h;split at h;cases h;rename_i ti YD;obtain⟨i,d,z,hi,ZI,hs,hz,Y2,hk,-⟩:=(C.ty YD).ex;split at h;rename_i YV;split at h;rename_i l hl;obtain rfl:=Oi h;obtain⟨k1,k2⟩:=jc hl (bS off hd);refine⟨_,⟨_,k1,rfl⟩,?_⟩;refine AR hx hi ZI (mD hk YV) (by rw[hs,List.length_take];omega) λj v hj=>?_;rw[List.getElem?_take] at hj;split at hj;rw[List.getElem?_drop] at hj;rw[bO,Nat.add_assoc];exact hb _ _ hj;cases hj;cases h;rename_i YV;obtain⟨u,hu,hdu⟩:=eu hd h;exact⟨u,hdu,AS hx ZI (im hk YV).1 (im hk YV).2 (hb _ _ hu)⟩
theorem lD(hl:vM H m e sz=some (N,h,t)):look H m=some (.lst e sz N h t):=by unfold vM at hl;split at hl;rename_i e' Yb N' h' t' hk;split at hl;rename_i b1 b2;have b1:=Nb b1;have b2:=Nb b2;subst b1 b2;obtain⟨rfl,h2⟩:=F7 (Oi hl);obtain⟨rfl,rfl⟩:=F7 h2;exact hk;cases hl;cases hl
theorem lE{cs:List SV}(hl:yh H n=some (cs,t)):look H n=some (.lay cs t):=by unfold yh at hl;split at hl;rename_i cs' t' hk;obtain⟨rfl,rfl⟩:=F7 (Oi hl);exact hk;cases hl
theorem yg(hH:YH C H ρ W)(hk:look H m=some (.lst e sz N h t)){i:Nat}(hd:den ρ (.gp m e sz i off) v) :
  ∃b us,v=.pointer (some ⟨b,i*sz+off,none⟩)∧au ρ.zo (h i) us∧us.length=sz∧(∀(k:Nat) (c:Value),us[k]? = some c->W.cell? ⟨b,i*sz+k,none⟩=some c∧c.oneCell'=true)∧bM ρ m b:=by
 obtain⟨l,b,h1,ho,h2,h3,h4,rfl⟩:=hd;obtain⟨l',k1,k2,k3,k4,k5⟩:=hH.blk m _ hk;rw[h1] at k1;obtain rfl:=Oi k1;obtain⟨b',u,q1,q2,q3,q4,q5,q6⟩:=k5 (by omega);rw[h4] at q1;obtain rfl:b=b':=by injection q1 with q1;injection q1
 obtain⟨us,p1,p2,p3⟩:=q6 i (by omega);refine⟨b,us,rfl,p1,p2,λk c hc=>?_,.inr (.inl ⟨e,l,0,h1,ho,by omega,h4⟩)⟩;have:=p3 k c hc;exact⟨by rw[q2.cell];simpa using this,q4 c (Xu this)⟩
theorem EM{p:Nat}{g:Nat->Nat×(Nat->List SV)}(hl:OB H m e sz=some (N,h,p,Yf,g,tk,t)):look H m=some (.nst e sz N h p Yf g tk t none):=by unfold OB at hl;split at hl;rename_i e' Yb N' h' p' szk' g' tk' t' hk;split at hl;rename_i b1 b2;have b1:=Nb b1;have b2:=Nb b2;subst b1 b2;simp only[Option.some.injEq,Prod.mk.injEq] at hl;obtain⟨rfl,rfl,rfl,rfl,rfl,rfl,rfl⟩:=hl;exact hk;cases hl;cases hl
theorem pe{p:Nat}{g:Nat->Nat×(Nat->List SV)}(hl:kids H m Yf=some (e,sz,N,h,p,g,tk,t)):look H m=some (.nst e sz N h p Yf g tk t none):=by unfold kids at hl;split at hl;rename_i e' Yb N' h' p' szk' g' tk' t' hk;split at hl;rename_i b1;have b1:=Nb b1;subst b1;simp only[Option.some.injEq,Prod.mk.injEq] at hl;obtain⟨rfl,rfl,rfl,rfl,rfl,rfl,rfl,rfl⟩:=hl;exact hk;cases hl;cases hl
theorem qE{p:Nat}{x y:SV}(hxy:∀v,den ρ x v->den ρ y v):∀{l:List SV} {i:Nat} {us:List Value},au ρ (l.set i x) us->au ρ (l.set i y) us
 | [],i,us,h=>h
 | z::r,0,us,h=>let ⟨a,b,e,h1,h2⟩:=aF h;⟨a,b,e,hxy _ h1,h2⟩
 | z::r,i+1,us,h=>let ⟨a,b,e,h1,h2⟩:=aF h;⟨a,b,e,h1,qE (p:=p) hxy h2⟩
theorem OW{i:Nat}{f:Nat->List SV}(h1:ρ.k m i=some q)(h2:q.N=n)(h3:fF ρ W q sz f t):den ρ (.kd m i sz 0 n) (.slice q.a q.N q.cap):=
 ⟨q,h1,by omega,h3.1,q.a,by rw[h2];rfl,λhc=>let ⟨b,u,k1,_⟩:=h3.2 (by omega);⟨b,k1,by rw[Nat.zero_mul];exact k1⟩⟩
theorem xU{p:Nat}{g:Nat->Nat×(Nat->List SV)}(hH:YH C H ρ W)(hk:look H m=some (.nst e sz N h p Yf g tk t none)){i:Nat}(hd:den ρ (.gp m e sz i off) v) :
  ∃b us q,v=.pointer (some ⟨b,i*sz+off,none⟩)∧ρ.k m i=some q∧q.N=(g i).1∧fF ρ W q Yf (g i).2 tk∧au ρ.zo ((h i).set p (.v (.slice q.a q.N q.cap))) us∧us.length=sz∧(∀(k:Nat) (c:Value),us[k]? = some c->W.cell? ⟨b,i*sz+k,none⟩=some c∧c.oneCell'=true)∧bM ρ m b:=by
 obtain⟨l,b,h1,ho,h2,h3,h4,rfl⟩:=hd;obtain⟨l',K⟩:=hH.blk m _ hk;have k1:=K.hv;rw[h1] at k1;obtain rfl:=Oi k1;obtain⟨b',u,q1,q2,q3,q4,q5,q6,-,-⟩:=K.row (by omega);rw[h4] at q1;obtain rfl:b=b':=by injection q1 with q1;injection q1
 have hN:l.N=N:=K.hN;obtain⟨q,us,p0,p1,p2,p3⟩:=q6 i (by omega);obtain⟨q',r0,r1,r2⟩:=K.kid i (by omega);rw[p0] at r0;obtain rfl:=Oi r0;refine⟨b,us,q,rfl,p0,r1,r2,p1,p2,λk c hc=>?_,.inr (.inl ⟨e,l,0,h1,ho,by omega,h4⟩)⟩;have:=p3 k c hc;exact⟨by rw[q2.cell];simpa using this,q4 c (Xu this)⟩
theorem J7{p n:Nat}{g:Nat->Nat×(Nat->List SV)}{i:Nat}{us:List Value}(h1:ρ.k m i=some q)(h2:q.N=(g i).1)(h3:fF ρ W q Yf (g i).2 tk)(hd:au ρ.zo ((h i).set p (.v (.slice q.a q.N q.cap))) us):au ρ (U7 m h p Yf g i) us:=
 qE (p:=n) (λv hv=>by obtain rfl:v=_:=hv;exact OW h1 h2 h3) (aK ρ.vW _ _ hd)
theorem yj{p:Nat}{g:Nat->Nat×(Nat->List SV)}(hH:YH C H ρ W)(hk:look H m=some (.nst e sz N h p Yf g tk t none)){i j:Nat}(hd:den ρ (.kq m i Yf j off) v) :
  ∃b us,v=.pointer (some ⟨b,j*Yf+off,none⟩)∧i<N∧j<(g i).1∧au ρ.zo ((g i).2 j) us∧us.length=Yf∧(∀(k:Nat) (c:Value),us[k]? = some c->W.cell? ⟨b,j*Yf+k,none⟩=some c∧c.oneCell'=true)∧bM ρ m b:=by
 obtain⟨l,b,h1,h2,h3,h4,rfl⟩:=hd;obtain⟨l',K⟩:=hH.blk m _ hk;have hi:i<N:=Nat.lt_of_not_le λh=>by rw[K.no i h] at h1;cases h1
 obtain⟨q,r0,r1,r2,r3⟩:=K.kid i hi;rw[h1] at r0;obtain rfl:=Oi r0;obtain⟨b',u,q1,q2,q3,q4,q5,q6⟩:=r3 (by omega);rw[h4] at q1;obtain rfl:b=b':=by injection q1 with q1;injection q1
 obtain⟨us,p1,p2,p3⟩:=q6 j (by omega);refine⟨b,us,rfl,hi,by omega,p1,p2,λk c hc=>?_,.inr (.inr ⟨i,l,0,h1,by omega,h4⟩)⟩;have:=p3 k c hc;exact⟨by rw[q2.cell];simpa using this,q4 c (Xu this)⟩
theorem Ah(hH:YH C H ρ W){v:SV}{y:Operand}(h:EV C H x t=some v)(hx:den ρ x (a.eval y)) :
  ∃u,den ρ v u∧(execOp a.eval ⟨dst,.load t y,ty,pos,after,guard⟩).run C.P W=.ok (.value u) W:=by
 unfold EV at h;split at h;split at h;rename_i n off _ cs t' hsb;obtain⟨b,vs,h1,h2,h3,-⟩:=hH.blk n _ (lE hsb);obtain⟨b',Zh,e⟩:=hx;rw[h1] at Zh;obtain rfl:=Oi Zh;exact kE (o:=0) h h2 (λi v hv=>by rw[B',h3.cell];simpa using hv) (by rw[B'];exact e);cases h;split at h;rename_i b off _ sb hsb;obtain⟨h0,vs,h2,h3⟩:=hH.hb.grd.2 b sb hsb;exact kE (o:=0) h (aK (tV _) _ _ h2) (λi v hv=>by rw[B'];exact h3 i v hv) (by rw[B'];exact hx);cases h;rename_i x off;obtain⟨b,o,u,e1,e2,e3⟩:=hx;obtain⟨v',k1,k2⟩:=kE (ρ:=ρ.zo) (o:=o) h e2 (λi c hc=>(hH.hb.zok _ _ _ (e3 i c hc)).1) e1;exact⟨v',bE ρ.vW _ _ k1,k2⟩;split at h;rename_i m e sz i off _ N hh t' hl;obtain⟨b,us,e1,e2,e3,e4,-⟩:=yg hH (lD hl) hx;obtain⟨v',k1,k2⟩:=kE (ρ:=ρ.zo) (o:=i*sz) h e2 (λi c hc=>(e4 i c hc).1) e1;exact⟨v',bE ρ.vW _ _ k1,k2⟩;split at h;rename_i m e sz i off _ _ _ N hh p Yf g tk t' hl;obtain⟨b,us,q,e1,f1,f2,f3,e2,e3,e4,-⟩:=xU hH (EM hl) hx;exact kE (o:=i*sz) h (J7 (n:=0) f1 f2 f3 e2) (λi c hc=>(e4 i c hc).1) e1;cases h;split at h;rename_i m i sz j off _ e esz N hh p g tk t' hl;obtain⟨b,us,e1,f1,f2,e2,e3,e4,-⟩:=yj hH (pe hl) hx;obtain⟨v',k1,k2⟩:=kE (ρ:=ρ.zo) (o:=j*sz) h e2 (λi c hc=>(e4 i c hc).1) e1;exact⟨v',bE ρ.vW _ _ k1,k2⟩;cases h;cases h
theorem jh{s k:Nat}{fi:TI}(h:mJ C s k=some (off,fi)) :
  ∃(fs:Array Field) (f:Field) (i:TypeInfo) (d:TypeDesc),C.P.underlying s=some (.struct fs)∧fs[k]? = some f∧f.offset=off∧C.P.info? f.type=some i∧C.P.underlying f.type=some d∧i.size=fi.sz∧aX d fi.k=true:=by
 unfold mJ at h;split at h;cases h;rename_i ti YD;obtain⟨i,d,z,hi,ZI,hs,hz,Y2,hk,-⟩:=(C.ty YD).ex;split at h;cases h;rename_i fs hfs;split at h;cases h;rename_i fo ft hft;split at h
 ·rename_i fi' hfi;obtain⟨rfl,rfl⟩:=F7 (Oi h);obtain⟨i',d',z',YT,hdd',Zs,Y4,hzz',ZH,-⟩:=(C.ty hfi).ex;cases Y7:ti.k with
  | struct l=>
   rw[Y7] at hfs hk;obtain rfl:=Oi hfs;cases d with
   | struct fs'=>
    have hk2:(fs'.toList.map λf=>(f.offset,f.type))=l:=(by simpa[aX] using hk);rw[<-hk2,List.getElem?_map] at hft;cases hq:fs'.toList[k]? with
    | none=>rw[hq] at hft;cases hft
    | some f=>
     rw[hq] at hft;obtain⟨e1,e2⟩:=F7 (Oi hft);subst e1 e2;exact⟨fs',f,i',d',ZI,by simpa using hq,rfl,YT,hdd',Zs,ZH⟩
   | _=>simp[aX] at hk
  | _=>rw[Y7] at hfs;cases hfs
 cases h
theorem oK:∀(vs:List Value) (k off:Nat) (cs:Array Value),off+k+vs.length<=cs.size->
  (vs.zipIdx k).foldl (fun(cs:Array Value) (x:Value×Nat)=>cs.setIfInBounds (off+x.2) x.1) cs=(cs.toList.take (off+k)++vs++cs.toList.drop (off+k+vs.length)).toArray
 | [],k,off,cs,h=>by simp
 | v::r,k,off,cs,h=>by
  simp only[List.zipIdx_cons,List.foldl_cons];rw[oK r (k+1) off _ (by simp at h ⊢;omega)]
  congr 1
  simp only[Array.toList_setIfInBounds,List.length_cons] at h ⊢;apply List.ext_getElem?;intro j;have hl:(cs.toList.set (off+k) v).length=cs.size:=(by simp);have hl2:cs.toList.length=cs.size:=(by simp);have t1:(List.take (off+(k+1)) (cs.toList.set (off+k) v)).length=off+k+1:=(by rw[List.length_take,hl];omega);have t2:(List.take (off+k) cs.toList).length=off+k:=(by rw[List.length_take,hl2];omega);simp only[List.append_assoc];rcases Nat.lt_trichotomy j (off+k) with hj|hj|hj;rw[F5 (by omega),F5 (by omega),Xn (by omega),Xn (by omega),List.getElem?_set_ne (by omega)];subst hj;rw[F5 (by omega),Xn (by omega),List.getElem?_set_self (by omega),F6 (by omega),t2];simp;obtain⟨m,rfl⟩:∃m,j=off+k+1+m:=⟨j-(off+k+1),by omega⟩
  rw[F6 (by omega),t1]
  conv=>rhs;rw[F6 (by omega),t2]
  rw[show off+k+1+m-(off+k+1)=m by omega,show off+k+1+m-(off+k)=m+1 by omega];simp only[List.cons_append,List.getElem?_cons_succ];rcases Nat.lt_or_ge m r.length with hm|hm;rw[F5 hm,F5 hm];rw[F6 hm,F6 hm,List.getElem?_drop,List.getElem?_drop,List.getElem?_set_ne (by omega)]
  congr 1
  omega
theorem wy(hd:den ρ x v)(h1:∀l,x≠.agg l)(h2:∀l,x≠.tup l)(h3:∀l,x≠.v (.agg l))(h4:∀l,x≠.v (.tuple l)):v.cells=#[v]∧v.oneCell'=true:=by
 cases x with
 | v y=>
  obtain rfl:v=y:=hd;cases v<;>first|exact⟨rfl,rfl⟩|exact P' rfl (h3 _)|exact P' rfl (h4 _)
 | il k n=>obtain rfl:=hd;exact⟨rfl,rfl⟩
 | bl b=>obtain rfl:=hd;exact⟨rfl,rfl⟩
 | p n off=>obtain⟨b,_,rfl⟩:=hd;exact⟨rfl,rfl⟩
 | s n sz off len cap=>obtain⟨b,_,rfl⟩:=hd;exact⟨rfl,rfl⟩
 | f fn x y=>obtain⟨b,_,_,_,rfl⟩:=hd;exact⟨rfl,rfl⟩
 | agg l=>exact P' rfl (h1 _)
 | tup l=>exact P' rfl (h2 _)
 | e=>obtain⟨_,rfl⟩:=hd;exact⟨rfl,rfl⟩
 | rs sz n h=>obtain⟨_,_,rfl,_⟩:=hd;exact⟨rfl,rfl⟩
 | rp x off=>obtain⟨_,_,_,rfl,_⟩:=hd;exact⟨rfl,rfl⟩
 | g m e sz off n=>obtain⟨_,_,_,_,_,_,rfl,_⟩:=hd;exact⟨rfl,rfl⟩
 | gp m e sz i off=>obtain⟨_,_,_,_,_,_,_,rfl⟩:=hd;exact⟨rfl,rfl⟩
 | m n=>obtain⟨_,_,rfl⟩:=hd;exact⟨rfl,rfl⟩
 | kd m i sz off n=>obtain⟨_,_,_,_,_,rfl,_⟩:=hd;exact⟨rfl,rfl⟩
 | kq m i sz j off=>obtain⟨_,_,_,_,_,_,rfl⟩:=hd;exact⟨rfl,rfl⟩
theorem iZ{l:List SV}(h:jj x=some l)(hd:den ρ x v):au ρ l v.cells.toList:=by unfold jj at h;split at h;obtain rfl:=Oi h;obtain⟨u,hu,rfl⟩:=hd;simpa[Value.cells] using hu;cases h;cases h;cases h;rename_i h1 h2 h3 h4;obtain rfl:=Oi h;rw[(wy hd h1 h2 h3 h4).1];exact aN hd rfl
theorem J4(h:Q9 x=true)(hd:den ρ x v):v.oneCell'=true:=by refine(wy hd ?_ ?_ ?_ ?_).2<;>(intro l e;subst e;cases h)
theorem m3:∀{l:List SV} {vs:List Value},zN l=true->au ρ l vs->∀v∈vs,v.oneCell'=true
 | [],vs,_,hd,v,hv=>by rw[bX hd] at hv;cases hv
 | x::r,vs,h,hd,v,hv=>by obtain⟨a,b,rfl,h1,h2⟩:=aF hd;simp only[zN] at h;split at h;rename_i hx;rcases Xq.1 hv with rfl|hv;exact J4 hx h1;exact m3 h h2 v hv;cases h
theorem Gi:∀{l:List (Nat×Nat)},QH C l=true->∀p∈l,∃i,C.P.info? p.2=some i
 | [],_,p,hp=>by cases hp
 | (o,t)::r,h,p,hp=>by simp only[QH] at h;split at h;rename_i ti YD;obtain⟨i,d,z,hi,_⟩:=(C.ty YD).ex;rcases Xq.1 hp with rfl|hp;exact⟨i,hi⟩;exact Gi h p hp;cases h
theorem run_places{P:Program}{w:World} : ∀(l:List Field),(∀f∈l,∃i,P.info? f.type=some i)->
  (l.mapM λf=>do pure (f.offset,<-sizeOf f.type):Sem (List (Nat×Nat))).run P w=.ok (l.map λf=>(f.offset,P.cellsOf f.type)) w
 | [],_=>rfl
 | f::r,h=>by obtain⟨i,hi⟩:=h f J';have hs:P.cellsOf f.type=i.size:=(by simp[Program.cellsOf,hi]);have:=run_places (w:=w) r (λg hg=>h g (Xm _ hg));simp only[sizeOf,typeInfo] at this;simp only[List.mapM_cons,Xz,sizeOf,typeInfo,run_program,Xx,hi,Xy,this,List.map_cons,hs]
theorem Ls{s:TypeId}{fs:Array Field}{cs:Array Value}(hi:P.info? s=some i)(hz:i.zero=some z)(hd:P.underlying s=some (.struct fs))(X8:∀f∈fs.toList,∃i,P.info? f.type=some i)(hf:Instr.fill (λk=>(fs.toList.map λf=>(f.offset,P.cellsOf f.type))[k]?) z.cells (parts.toList.map λx=>(x.1,a.eval x.2))=some cs) :
  (execOp a.eval ⟨dst,.build s parts,ty,pos,after,guard⟩).run P w=.ok (.value (.agg cs)) w:=by
 simp only[execOp,Instr.build,zeroValue,typeInfo,underlying,Xz,run_program,Xx,hi,Xy,hz,hd];rw[Array.mapM_eq_mapM_toList];simp only[Sem.run_map,run_places fs.toList X8,Xx,Array.toList_map];have e:(λx:Nat=>((fs.toList.map λf=>(f.offset,P.cellsOf f.type)).toArray)[x]?)=λk=>(fs.toList.map λf=>(f.offset,P.cellsOf f.type))[k]?:=by funext k;simp
 rw[e,hf];rfl
theorem AU{s e:TypeId}{ei:TypeInfo}{cs:Array Value}(hi:P.info? s=some i)(hz:i.zero=some z)(hd:P.underlying s=some (.array n e))(he:P.info? e=some ei)(hf:Instr.fill (λk=>some (k*ei.size,ei.size)) z.cells (parts.toList.map λx=>(x.1,a.eval x.2))=some cs) :
  (execOp a.eval ⟨dst,.build s parts,ty,pos,after,guard⟩).run P w=.ok (.value (.agg cs)) w:=by
 simp only[execOp,Instr.build,zeroValue,typeInfo,underlying,sizeOf,Xz,run_program,Xx,hi,Xy,hz,hd,he,Array.toList_map,hf]
theorem AM(h:lS op a ρ){s:TypeId}{fs:Array Field}(hd:C.P.underlying s=some (.struct fs)):∀{parts:List (Nat×Operand)} {ps:List (Nat×SV)} {z l:List SV} {zs:List Value},opP op parts=some ps->Fq C s z ps=some l->au ρ z zs->
  ∃ls,au ρ l ls∧Instr.fill (λk=>(fs.toList.map λf=>(f.offset,C.P.cellsOf f.type))[k]?) zs.toArray (parts.map λx=>(x.1,a.eval x.2))=some ls.toArray
 | [],ps,z,l,zs,hp,hf,hz=>by obtain rfl:=Oi hp;obtain rfl:=Oi hf;exact⟨zs,hz,rfl⟩
 | (i,x)::r,ps,z,l,zs,hp,hf,hz=>by
  simp only[opP] at hp;split at hp
  ·rename_i u us hu hus;obtain rfl:=Oi hp;simp only[Fq] at hf;split at hf
   ·rename_i off fi m hfi hm;split at hf
    ·rename_i b1 b2;split at hf
     ·rename_i z' Y4;have hx:=h [] x u hu (λ_ hp=>by cases hp);have hc:=iZ hm hx;obtain⟨fs',f,i',d',e1,e2,e3,e4,e5,e6,e7⟩:=jh hfi;rw[hd] at e1;obtain rfl:fs=fs':=(by injection e1 with e1;injection e1);have b1':=Nb b1;have b2':=F4 b2;have hl:=aB hc;have hzl:=aB hz;have Y8:C.P.cellsOf f.type=fi.sz:=(by simp[Program.cellsOf,e4,e6]);have Z5:(a.eval x).cells.size=fi.sz:=(by rw[<-b1',<-hl];simp);have Y2:au ρ z' (zs.take off++(a.eval x).cells.toList++zs.drop (off+fi.sz)):=(by rw[dG Y4];exact bg (bg (dt _ hz) hc) (bS _ hz));obtain⟨ls,k1,k2⟩:=AM h hd hus hf Y2;refine⟨ls,k1,?_⟩;simp only[List.map_cons,Instr.fill];have e8:(fs.toList.map λf=>(f.offset,C.P.cellsOf f.type))[i]? = some (off,fi.sz):=(by rw[List.getElem?_map];have:fs.toList[i]? = some f:=(by simpa using e2);rw[this];simp[e3,Y8]);rw[e8];have hlen:(a.eval x).cells.toList.length=fi.sz:=(by simpa using Z5);have hfs:=oK (a.eval x).cells.toList 0 off zs.toArray (by simp;omega);rw[hlen] at hfs;simp only[Nat.add_zero] at hfs;rw[<-k2,<-hfs];have hn:¬((a.eval x).cells.size≠fi.sz||off+(a.eval x).cells.size > zs.toArray.size)=true:=(by simp only[Z5,List.size_toArray,ne_eq,not_true_eq_false,decide_false,Bool.false_or,U'];omega);simp only[Xk hn]
      congr 1
      simp only[<-Array.foldl_toList,Array.toList_zipIdx]
     cases hf
    cases hf
   cases hf
  cases hp
theorem mI(h:lS op a ρ){sz:Nat} : ∀{parts:List (Nat×Operand)} {ps:List (Nat×SV)} {z l:List SV} {zs:List Value},opP op parts=some ps->uG sz z ps=some l->au ρ z zs->
  ∃ls,au ρ l ls∧Instr.fill (λi=>some (i*sz,sz)) zs.toArray (parts.map λx=>(x.1,a.eval x.2))=some ls.toArray
 | [],ps,z,l,zs,hp,hf,hz=>by obtain rfl:=Oi hp;obtain rfl:=Oi hf;exact⟨zs,hz,rfl⟩
 | (i,x)::r,ps,z,l,zs,hp,hf,hz=>by
  simp only[opP] at hp;split at hp
  ·rename_i u us hu hus;obtain rfl:=Oi hp;simp only[uG] at hf;split at hf
   ·rename_i m hm;split at hf
    ·rename_i b1 b2;split at hf
     ·rename_i z' Y4;have hx:=h [] x u hu (λ_ hp=>by cases hp);have hc:=iZ hm hx;have b1':=Nb b1;have b2':=F4 b2;have hl:=aB hc;have hzl:=aB hz;have Z5:(a.eval x).cells.size=sz:=(by rw[<-b1',<-hl];simp);have Y2:au ρ z' (zs.take (i*sz)++(a.eval x).cells.toList++zs.drop (i*sz+sz)):=(by rw[dG Y4];exact bg (bg (dt _ hz) hc) (bS _ hz));obtain⟨ls,k1,k2⟩:=mI h hus hf Y2;refine⟨ls,k1,?_⟩;simp only[List.map_cons,Instr.fill];have hlen:(a.eval x).cells.toList.length=sz:=(by simpa using Z5);have hfs:=oK (a.eval x).cells.toList 0 (i*sz) zs.toArray (by simp;omega);rw[hlen] at hfs;simp only[Nat.add_zero] at hfs;rw[<-k2,<-hfs];have hn:¬((a.eval x).cells.size≠sz||i*sz+(a.eval x).cells.size > zs.toArray.size)=true:=(by simp only[Z5,List.size_toArray,ne_eq,not_true_eq_false,decide_false,Bool.false_or,U'];omega);simp only[Xk hn]
      congr 1
      simp only[<-Array.foldl_toList,Array.toList_zipIdx]
     cases hf
    cases hf
   cases hf
  cases hp
theorem tz{z:List SV}(h:au ρ z zs):au ρ (GU n z) ((List.replicate n zs).flatten):=by
 induction n with
 | zero=>rfl
 | succ n ih=>simp only[GU,List.replicate_succ,List.flatten_cons];exact bg h ih
theorem Lj(n j:Nat)(hz:0<zs.length)(hj:j<n*zs.length):((List.replicate n zs).flatten)[j]? = zs[j%zs.length]?:=by
 induction n generalizing j with
 | zero=>omega
 | succ n ih=>
  simp only[List.replicate_succ,List.flatten_cons];rcases Nat.lt_or_ge j zs.length with h|h;rw[F5 h,Nat.mod_eq_of_lt h];rw[F6 h,ih (j-zs.length) (by rw[Nat.succ_mul] at hj;omega),<-Nat.mod_eq_sub_mod h]
theorem Li(n:Nat):((List.replicate n zs).flatten).length=n*zs.length:=by
 induction n with
 | zero=>simp
 | succ n ih=>simp only[List.replicate_succ,List.flatten_cons,List.length_append,ih,Nat.succ_mul];omega
theorem kh{e:TypeId}{len:Nat}{ls:Array Value}(hd:P.underlying t=some (.slice e))(hi:P.info? e=some i)(hz:i.zero=some z)(h0:¬len*i.size=0)(h1:¬len*i.size > 2^24)(hzs:z.cells.size=i.size)(hf:Instr.fill (λk=>some (k*i.size,i.size)) ((List.replicate len z.cells.toList).flatten).toArray (parts.toList.map λx=>(x.1,a.eval x.2))=some ls) :
  (execOp a.eval ⟨dst,.buildSlice t len parts,ty,pos,after,guard⟩).run P w=.ok (.value (.slice (some ⟨w.heap.size,0,none⟩) len len)) (w.alloc (.cells ls e)):=by
 have harr:(Array.range (len*i.size)).map (λx=>z.cells[x%z.cells.size]!)=((List.replicate len z.cells.toList).flatten).toArray:=by apply Array.ext_getElem?;intro j;have hpos:0<z.cells.toList.length:=(by simp only[Array.length_toList,hzs];rcases Nat.eq_zero_or_pos i.size with h|h;rw[h] at h0;simp at h0;exact h);rcases Nat.lt_or_ge j (len*i.size) with hj|hj;have hm:j%z.cells.size<z.cells.size:=Nat.mod_lt _ (by simpa using hpos);have:=Lj (zs:=z.cells.toList) len j hpos (by simpa[hzs] using hj);simp only[List.getElem?_toArray,this];simp[hj,hm];rw[Array.getElem?_eq_none (by simpa using hj),Array.getElem?_eq_none (by simp only[List.size_toArray,Li];simpa[hzs] using hj)]
 simp only[execOp,Instr.buildSlice,underlying,sizeOf,zeroValue,typeInfo,Xz,run_program,Xx,hd,hi,Xy,hz,Xk h0,Xk h1,harr,Array.toList_map,hf,newRow,run_newObj];rfl
theorem uL{e:TypeId}(hd:P.underlying t=some (.slice e))(hi:P.info? e=some i)(hp:parts.toList=[]) :
  (execOp a.eval ⟨dst,.buildSlice t 0 parts,ty,pos,after,guard⟩).run P w=.ok (.value (.slice (some ⟨w.heap.size,0,none⟩) 0 0)) (w.alloc (.cells #[] e)):=by
 have h1:¬((0:Nat) > 2^24):=by decide
 have h2:0*i.size=0:=by omega
 have h3:(Array.range 0)=#[]:=rfl;have h4:∀q:Nat->Value,Array.map q #[]=#[]:=λq=>by simp
 simp only[execOp,Instr.buildSlice,underlying,sizeOf,zeroValue,typeInfo,Xz,run_program,Xx,hd,hi,Xy,h2,Xk h1,if_true,Array.toList_map,hp,List.map_nil,Instr.fill,newRow,run_newObj,h3,h4];rfl
end
end Go.Proofs.YtmdpdknpapjchaaGreatDoor
