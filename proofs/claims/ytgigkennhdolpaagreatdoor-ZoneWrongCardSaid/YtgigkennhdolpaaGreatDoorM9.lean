/- A symbolic executor with lists, 9. -/
import Derived.Test.YtgigkennhdolpaaGreatDoorM8
namespace Go.Proofs.YtgigkennhdolpaaGreatDoor
open Go.RowKit
section
variable {PP:Program}{C:Cx PP}{Γ:List (UO C)}{op:ZD}{a:Act}{ρ:Names}{W W':World}{H:aY}{nm:Nat}{dst:Option Tmp}{ty:TypeId}{pos:String}{after:Array Edge}{guard:Option (Nat×Bool)}
theorem fI{i:SV}{k:Nat}{y:Value}(h:natLit i=some k)(hd:den ρ i y):∃kk,y=.int kk (k:Int):=by unfold natLit at h;split at h;obtain rfl:=Oi h;exact⟨_,hd⟩;obtain rfl:=Oi h;exact⟨_,hd⟩;cases h
theorem Jl(hH:VQ C H ρ W){t:Nat}{x i:Operand}{u v:SV}{r:DR}(h:Jm C t u v=some r)(ho:r.Ob)(hx:den ρ u (a.eval x))(hi:den ρ v (a.eval i)) :
  ∃y,Yields r ρ y∧(execOp a.eval ⟨dst,.indexAddr t x i,ty,pos,after,guard⟩).run C.P W=.ok (.value y) W:=by
 unfold Jm at h;split at h;rename_i n sz off len cap;split at h;rename_i e ei k Vw hk;split at h;rename_i b1 b2;have b2:=Nb b2;rw[Nat.blt_eq] at b1;obtain⟨inf,z,ht,UX,hs,-⟩:=cD Vw;obtain⟨b,hb,e1⟩:=hx;obtain⟨kk,e2⟩:=fI hk hi;refine⟨_,bg h ?_,iU e1 e2 ⟨by omega,by omega⟩ ht UX⟩;rw[bM,Int.toNat_natCast,hs,b2];exact⟨b,hb,rfl⟩;cases h;cases h;rename_i sz n hh;split at h;rename_i e ei kk k Vw hk;split at h;rename_i b2;have b2:=Nb b2;obtain⟨h0,h1⟩:=jA h ho;obtain⟨inf,z,ht,UX,hs,-⟩:=cD Vw;obtain⟨ad,cap,e1,e3,e4⟩:=hx;obtain⟨b,o,us,rfl,k2,k3,k4⟩:=e4 k.toNat (by omega);have e2:=SV.int?_den hk hi;refine⟨_,dz h ?_,iU e1 e2 ⟨h0,h1⟩ ht UX⟩;rw[bM,hs,b2];exact⟨b,o+k.toNat*sz,us,rfl,k2,k4⟩;cases h;cases h;rename_i m e sz off n;split at h;rename_i et ei kk k Vw hk;split at h;rename_i b2;have b2:=Nb b2;obtain⟨h0,h1⟩:=jA h ho;obtain⟨inf,z,ht,UX,hs,-⟩:=cD Vw;obtain⟨l,p1,po,p2,p3,a',e1,p5⟩:=hx;obtain⟨b,q1,rfl⟩:=p5 (by omega);have e2:=SV.int?_den hk hi;refine⟨_,dz h ?_,iU e1 e2 ⟨h0,h1⟩ ht UX⟩;rw[bM,hs,b2];exact⟨l,b,p1,po,by omega,p3,q1,by rw[Nat.add_zero,Nat.add_mul]⟩;cases h;cases h;rename_i n off;split at h;rename_i len e ei k Vw hk;split at h;rename_i b1;rw[Nat.blt_eq] at b1;obtain⟨inf,d,ht,UX,hs,-⟩:=jl Vw;obtain⟨b,hb,e1⟩:=hx;obtain⟨kk,e2⟩:=fI hk hi;refine⟨_,bg h ?_,gL e1 e2 ⟨by omega,by omega⟩ ht UX⟩;rw[bM,Int.toNat_natCast,hs];exact⟨b,hb,rfl⟩;cases h;cases h;rename_i xs off;split at h;rename_i len e ei k Vw hk;split at h;rename_i b1;rw[Nat.blt_eq] at b1;obtain⟨inf,d,ht,UX,hs,-⟩:=jl Vw;obtain⟨b,o,us,e1,k2,k3⟩:=hx;obtain⟨kk,e2⟩:=fI hk hi;refine⟨_,bg h ?_,gL e1 e2 ⟨by omega,by omega⟩ ht UX⟩;rw[bM,Int.toNat_natCast,hs];exact⟨b,o,us,by rw[Nat.add_assoc],k2,k3⟩;cases h;cases h;rename_i m e sz j off;split at h;rename_i len et ei k Vw hk;split at h;rename_i b1;rw[Nat.blt_eq] at b1;obtain⟨inf,d,ht,UX,hs,-⟩:=jl Vw;obtain⟨l,b,p1,po,p2,p3,p4,e1⟩:=hx;obtain⟨kk,e2⟩:=fI hk hi;refine⟨_,bg h ?_,gL e1 e2 ⟨by omega,by omega⟩ ht UX⟩;rw[bM,Int.toNat_natCast,hs];exact⟨l,b,p1,po,p2,p3,p4,by rw[Nat.add_assoc]⟩;cases h;cases h;rename_i m q sz off n;split at h;rename_i et ei kk k Vw hk;split at h;rename_i b2;have b2:=Nb b2;obtain⟨h0,h1⟩:=jA h ho;obtain⟨inf,z,ht,UX,hs,-⟩:=cD Vw;obtain⟨l,p1,p2,p3,a',e1,p5⟩:=hx;obtain⟨b,q1,rfl⟩:=p5 (by omega);have e2:=SV.int?_den hk hi;refine⟨_,dz h ?_,iU e1 e2 ⟨h0,h1⟩ ht UX⟩;rw[bM,hs,b2];exact⟨l,b,p1,by omega,p3,q1,by rw[Nat.add_zero,Nat.add_mul]⟩;cases h;cases h;rename_i m q sz j off;split at h;rename_i len et ei k Vw hk;split at h;rename_i b1;rw[Nat.blt_eq] at b1;obtain⟨inf,d,ht,UX,hs,-⟩:=jl Vw;obtain⟨l,b,p1,p2,p3,p4,e1⟩:=hx;obtain⟨kk,e2⟩:=fI hk hi;refine⟨_,bg h ?_,gL e1 e2 ⟨by omega,by omega⟩ ht UX⟩;rw[bM,Int.toNat_natCast,hs];exact⟨l,b,p1,p2,p3,p4,by rw[Nat.add_assoc]⟩;cases h;cases h;rename_i b off;split at h;rename_i len et ei k Vw hk;split at h;rename_i b1;rw[Nat.blt_eq] at b1;obtain⟨inf,d,ht,UX,hs,-⟩:=jl Vw;have e1:a.eval x=_:=hx;obtain⟨kk,e2⟩:=fI hk hi;refine⟨_,bg h ?_,gL e1 e2 ⟨by omega,by omega⟩ ht UX⟩;rw[bM,Int.toNat_natCast,hs];rfl;cases h;cases h;cases h
theorem E2{t:Nat}{x i:Operand}{u v w:SV}(h:sF C t u v=some w)(hx:den ρ u (a.eval x))(hi:den ρ v (a.eval i)) :
  ∃y,den ρ w y∧(execOp a.eval ⟨dst,.index t x i,ty,pos,after,guard⟩).run C.P W=.ok (.value y) W:=by
 unfold sF at h;split at h
 ·rename_i l len e ei k Vw hk;obtain⟨inf,d,ht,UX,hs,hde,hke⟩:=jl Vw;obtain⟨us,Zh,e1⟩:=hx;obtain⟨kk,e2⟩:=fI hk hi;split at h
  ·rename_i b1 VR;rw[Nat.blt_eq] at b1;split at h
   ·rename_i m hm;obtain rfl:=Oi h;obtain⟨k1,k2⟩:=iy hm (bP (k*ei.sz) Zh);refine⟨_,⟨_,k1,rfl⟩,sU e1 e2 b1 ht UX ?_⟩;rw[hU UX hde (lL hke VR),hs];rw[List.length_drop] at k2
    congr 2
    apply Array.ext';simp[List.take_drop,Nat.add_comm]
   cases h
  rename_i b1 VR;rw[Nat.blt_eq] at b1;obtain⟨y,hy,hdy⟩:=ef Zh h;exact⟨y,hdy,sU e1 e2 b1 ht UX (kB hde (gK hke VR).1 (gK hke VR).2 (by rw[hs];simpa using hy))⟩;cases h
 cases h
theorem DT{k:IntKind}{sz c:Nat} : ∀{m:Nat} {l:List SV} {us:List Value} {r:List Int},Nn k sz c m l=some r->aj ρ l us->∀j,j<m->us[j*sz+c]? = some (.int k (r.getD j 0))
 | 0,_,_,_,_,_,j,hj=>Up hj (F' j)
 | m+1,l,us,r,h,hd,j,hj=>by
  unfold Nn at h;split at h;cases h;rename_i x hx;split at h
  ·rename_i k' n r' hn hr;split at h
   ·rename_i hk;obtain rfl:=fV hk;obtain rfl:=Oi h;cases j with
    | zero=>
     obtain⟨y,hy,hdy⟩:=ef hd hx;rw[SV.int?_den hn hdy] at hy;simpa using hy
    | succ j=>
     have:=DT hr (bP sz hd) j (by omega);rw[List.getElem?_drop] at this;rw[show (j+1)*sz+c=sz+(j*sz+c) by rw[Nat.succ_mul];omega];simpa using this
   cases h
  cases h
theorem zG{n:Int}{sz m:Nat}{l:List SV}{us:List Value}(hd:aj ρ l us)(hn:n.toNat<m):∀{zs:List SV} {c:Nat} {cs:List SV},DO n sz m l c zs=some cs->∃vs,aj ρ cs vs∧vs.length=zs.length∧∀q,q<zs.length->us[n.toNat*sz+(c+q)]? = vs[q]?
 | [],c,cs,h=>by obtain rfl:=Oi (show some []=some cs from h);exact⟨[],rfl,rfl,λq hq=>Up hq (F' q)⟩
 | z::zs,c,cs,h=>by
  unfold DO at h;split at h
  ·rename_i k b hz;split at h
   ·rename_i r rs hr hrs;obtain rfl:=Oi h;obtain⟨vs,k1,k2,k3⟩:=zG hd hn hrs;refine⟨_::vs,aG rfl k1,by simp[k2],λq hq=>?_⟩;cases q with
    | zero=>simpa using DT hr hd n.toNat hn
    | succ q=>
     have:=k3 q (by simpa using hq);rw[show c+(q+1)=c+1+q by omega];simpa using this
   cases h
  cases h
theorem E1{t:Nat}{x i:Operand}{u v:SV}{r:DR}(h:Bo C t u v=some r)(ho:r.Ob)(hx:den ρ u (a.eval x))(hi:den ρ v (a.eval i)) :
  ∃y,Yields r ρ y∧(execOp a.eval ⟨dst,.index t x i,ty,pos,after,guard⟩).run C.P W=.ok (.value y) W:=by
 unfold Bo at h;split at h
 ·rename_i l len e ei Vw;obtain⟨inf,d,ht,UX,hs,hde,hke⟩:=jl Vw;obtain⟨us,Zh,e1⟩:=hx;split at h
  ·rename_i kk n VR hn;split at h
   rotate_left
   cases h;rename_i cs hbz Xm;have hb:=jA h ho;have hbz:=Nb hbz;obtain⟨vs,k1,k2,k3⟩:=zG Zh (by omega) Xm;have e2:a.eval i=.int kk (n.toNat:Int):=(by rw[SV.int?_den hn hi,Int.toNat_of_nonneg hb.1]);refine⟨_,dz h ⟨vs,k1,rfl⟩,sU e1 e2 (by omega) ht UX ?_⟩;rw[hU UX hde (lL hke VR),hs]
   congr 2
   apply Array.ext';apply List.ext_getElem?;intro q;simp only[Array.toList_extract,List.extract_eq_take_drop,Nat.add_sub_cancel_left];rw[List.getElem?_take];split;rename_i hq;rw[List.getElem?_drop];have:=k3 q (by omega);rw[B'] at this;simpa using this;rename_i hq;exact(List.getElem?_eq_none (by omega)).symm
  cases h
 cases h
theorem kC{P:Program}{ats:Array TypeId}{t ty e:TypeId}{b:Option Addr}{len cap:Nat}{w:World}(h:ats[0]? = some t)(hd:P.underlying t=some (.slice e)) :
  (Builtin.len_ ats ty #[.slice b len cap]).run P w=.ok (.int .i64 len) w:=by
 unfold Builtin.len_;rw[h];show ((underlying t >>= _).run P w)=_;simp only[underlying,UJ,run_program,UH,hd,UI,goInt];rfl
theorem Hr{P:Program}{ats:Array TypeId}{t ty:TypeId}{s:ByteArray}{w:World}(h:ats[0]? = some t)(hd:P.underlying t=some .string) :
  (Builtin.len_ ats ty #[.string s]).run P w=.ok (.int .i64 s.size) w:=by
 unfold Builtin.len_;rw[h];show ((underlying t >>= _).run P w)=_;simp only[underlying,UJ,run_program,UH,hd,UI,goInt];rfl
theorem L5{ats:Array TypeId}{l:List SV}{w:SV}{vs:List Value}(h:PY C ats l=some w)(hd:aj ρ l vs):∃y,den ρ w y∧(Builtin.len_ ats ty vs.toArray).run C.P W=.ok y W:=by
 unfold PY at h;split at h
 ·rename_i x t ts hts;split at h
  ·rename_i r hr;obtain rfl:=Oi h;obtain⟨u,us,rfl,e2,e3⟩:=aJ hd;obtain rfl:=cd e3;have e8:ats[0]? = some t:=(by have:=Uo (·[0]?) hts;simpa using this);unfold Sq at hr;split at hr
   ·rename_i ti Vz;split at hr
    ·rename_i s hk;obtain rfl:=Oi hr;obtain rfl:u=_:=e2;obtain⟨i1,d1,z1,-,Wl,-,-,-,Wi,-⟩:=(C.ty Vz).ex;rw[hk] at Wi;obtain rfl:d1=.string:=by cases d1<;>first|rfl|cases Wi|(simp[aR] at Wi)
     exact⟨_,rfl,Hr e8 Wl⟩
    cases hr
   cases hr
  split at h;rename_i e Vw;obtain⟨inf,z,ht,-⟩:=cD (e:=e.1) (ei:=e.2) Vw;obtain⟨u,us,rfl,e2,e3⟩:=aJ hd;obtain rfl:=cd e3;have e8:ats[0]? = some t:=(by have:=Uo (·[0]?) hts;simpa using this);split at h;obtain rfl:=Oi h;obtain⟨b,-,rfl⟩:=e2;exact⟨_,rfl,kC e8 ht⟩;obtain rfl:=Oi h;obtain⟨b,cap,rfl,-⟩:=e2;exact⟨_,rfl,kC e8 ht⟩;obtain rfl:=Oi h;obtain⟨l,-,-,-,-,a',rfl,-⟩:=e2;exact⟨_,rfl,kC e8 ht⟩;obtain rfl:=Oi h;obtain⟨l,-,-,-,a',rfl,-⟩:=e2;exact⟨_,rfl,kC e8 ht⟩;obtain rfl:=Oi h;obtain⟨b,rfl⟩:=e2;exact⟨_,rfl,kC e8 ht⟩;obtain rfl:=Oi h;obtain rfl:u=_:=e2;exact⟨_,rfl,kC e8 ht⟩;cases h;cases h
 cases h
theorem It{mx:Bool}{x y w:SV}{u v:Value}(h:mm2 mx x y=some w)(e2:den ρ x u)(e5:den ρ y v):∃z,den ρ w z∧(if mx then Builtin.max2 u v else Builtin.min2 u v).run C.P W=.ok z W:=by
 unfold mm2 at h;split at h
 ·rename_i k p k' q hp hq;split at h
  ·rename_i hk;obtain rfl:=fV hk;obtain rfl:=SV.int?_den hp e2;obtain rfl:=SV.int?_den hq e5;have hmax:(Builtin.max2 (Value.int k p) (.int k q)).run C.P W=.ok (.int k (max p q)) W:=by
    simp only[Builtin.max2,UI]
    congr 2
    by_cases hh:q > p;rw[Uw hh];omega;rw[Uv hh];omega
   have hmin:(Builtin.min2 (Value.int k p) (.int k q)).run C.P W=.ok (.int k (min p q)) W:=by
    simp only[Builtin.min2,UI]
    congr 2
    by_cases hh:q<p;rw[Uw hh];omega;rw[Uv hh];omega
   split at h<;>obtain rfl:=Oi h;exact⟨_,rfl,hmax⟩;exact⟨_,rfl,hmin⟩;exact⟨_,rfl,hmax⟩;exact⟨_,rfl,hmin⟩
  cases h
 cases h
theorem Ir{mx:Bool} : ∀{l:List SV} {x w:SV} {u:Value} {vs:List Value},mmF mx x l=some w->den ρ x u->aj ρ l vs->∃y,den ρ w y∧(vs.foldlM (λa b=>if mx then Builtin.max2 a b else Builtin.min2 a b) u).run C.P W=.ok y W
 | [],x,w,u,vs,h,hx,hd=>by obtain rfl:=Oi h;obtain rfl:=cd hd;exact⟨u,hx,rfl⟩
 | y::r,x,w,u,vs,h,hx,hd=>by obtain⟨v,Zd,rfl,e2,e3⟩:=aJ hd;simp only[mmF] at h;split at h;rename_i z hz;obtain⟨z',k1,k2⟩:=It (C:=C) (W:=W) hz hx e2;obtain⟨y',k3,k4⟩:=Ir (l:=r) h k1 e3;refine⟨y',k3,?_⟩;rw[List.foldlM_cons];simp only[UJ,k2,UH,k4];cases h
theorem Is{mx:Bool}{l:List SV}{w:SV}{vs:List Value}{ats:Array TypeId}(h:mmD mx l=some w)(hd:aj ρ l vs):∃y,den ρ w y∧(if mx then Builtin.max_ ats ty vs.toArray else Builtin.min_ ats ty vs.toArray).run C.P W=.ok y W:=by
 unfold mmD at h;split at h
 ·rename_i x y r;split at h
  ·rename_i z hz;obtain⟨u,us,rfl,e2,e3⟩:=aJ hd;obtain⟨v,Zd,rfl,e5,e6⟩:=aJ e3;obtain⟨z',k1,k2⟩:=It (C:=C) (W:=W) hz e2 e5;obtain⟨y',k3,k4⟩:=Ir (C:=C) (W:=W) h k1 e6;refine⟨y',k3,?_⟩;cases mx with
   | true=>
    simp only[if_true] at k2 k4 ⊢;simp only[Builtin.max_,List.foldlM_cons,UJ,k2,UH];exact k4
   | false=>
    simp only[Bool.false_eq_true,if_false] at k2 k4 ⊢;simp only[Builtin.min_,List.foldlM_cons,UJ,k2,UH];exact k4
  cases h
 cases h
theorem H6(h:lh op a ρ){x:Option Operand}{v:Option SV}(e:opO op x=some v):(x=none∧v=none)∨∃o u,x=some o∧v=some u∧den ρ u (a.eval o):=by
 cases x with
 | none=>exact .inl ⟨rfl,(Oi e).symm⟩
 | some o=>
  simp only[opO] at e;split at e;rename_i u hu;exact .inr ⟨o,u,rfl,(Oi e).symm,h.get hu⟩;cases e
theorem su{b o m sz cap:Nat} : (if cap=m then some (⟨b,o,none⟩:Addr) else(some (⟨b,o,none⟩:Addr)).map (·.add (m*sz)))=if cap=m then some ⟨b,o,none⟩ else some ⟨b,o+m*sz,none⟩:=by split;rfl;rw[Option.map_some,bM]
theorem qJ{sz n:Nat}{hh:Nat->List SV}{ad:Option Addr}{cap l h:Nat}(hlh:l<=h)(hn:h<=n)(hd:den ρ (.rs sz n hh) (.slice ad n cap)):den ρ (.rs sz (h-l) λi=>hh (l+i)) (.slice (if cap=l then ad else ad.map (·.add (l*sz))) (h-l) (cap-l)):=by obtain⟨ad',cap',e,hc,h4⟩:=hd;injection e with e1 e2 e3;subst e1 e3;refine⟨_,_,rfl,by omega,λi hi=>?_⟩;obtain⟨b,o,us,rfl,k2,k3,k4⟩:=h4 (l+i) (by omega);refine⟨b,o+l*sz,us,?_,k2,k3,λk c hk=>?_⟩;rw[su,Uv (by omega)];have:=k4 k c hk;rw[Nat.add_mul,<-Nat.add_assoc] at this;exact this
theorem wL{m e sz off n:Nat}{ad:Option Addr}{cap l h:Nat}(hlh:l<=h)(hn:h<=n)(hd:den ρ (.g m e sz off n) (.slice ad n cap)):den ρ (.g m e sz (off+l) (h-l)) (.slice (if cap=l then ad else ad.map (·.add (l*sz))) (h-l) (cap-l)):=by obtain⟨lv,p1,po,p2,p3,a',e,p5⟩:=hd;injection e with e1 e2 e3;subst e1 e3;refine⟨lv,p1,po,by omega,p3,_,by rw[Nat.sub_sub],λhc=>?_⟩;obtain⟨b,q1,rfl⟩:=p5 (by omega);refine⟨b,q1,?_⟩;rw[su,Uv (by omega),Nat.add_mul]
theorem Ew(h:lh op a ρ){t:TypeId}{x:Operand}{low high max:Option Operand}{u:SV}{lo hi mx:Option SV}{r:DR}(hD:AN C t u lo hi mx=some r)(ho:r.Ob)(hx:den ρ u (a.eval x))
  (h1:opO op low=some lo) (h2:opO op high=some hi) (h3:opO op max=some mx) :
  ∃y,Yields r ρ y∧(execOp a.eval ⟨dst,.slice t x low high max,ty,pos,after,guard⟩).run C.P W=.ok (.value y) W:=by
 have n1:∀{x:Option Operand},opO op x=some none->x.map a.eval=none:=λ{x} hx=>by
  rcases H6 h hx with ⟨rfl,-⟩|⟨o,u,rfl,e,-⟩
  rfl;cases e
 have s1:∀{x:Option Operand} {u:SV} {k:IntKind} {n:Int},opO op x=some (some u)->u.int? = some (k,n)->x.map a.eval=some (.int k n):=λ{x u k n} hx hu=>by
  rcases H6 h hx with ⟨-,e⟩|⟨o,u',rfl,e,hd⟩
  cases e;obtain rfl:=Oi e;rw[Option.map_some,SV.int?_den hu hd]
 have z1:∀{x:Option Operand} {k:IntKind},opO op x=some (some (.il k 0))->x.map a.eval=some (.int k 0):=λ{x k} hx=>s1 hx rfl;have Xx:∀(e:Nat) (inf:TypeInfo) (ad:Option Addr) (n cap:Nat) (k k':IntKind),C.P.underlying t=some (.slice e)->C.P.info? e=some inf->a.eval x=.slice ad n cap->low.map a.eval=none->high.map a.eval=some (.int k 0)->max.map a.eval=some (.int k' 0)->
   ∃y,den ρ .e y∧(execOp a.eval ⟨dst,.slice t x low high max,ty,pos,after,guard⟩).run C.P W=.ok (.value y) W:=by
  intro e inf ad n cap k k' ht UX e1 q1 q2 q3;refine⟨_,?_,dq (l:=0) (h:=0) (m:=0) e1 ht UX ?_⟩;rw[Uw rfl];exact⟨ad,rfl⟩;rw[q1,q2,q3];exact aX (.inr ⟨k',0,rfl,by omega,by omega,rfl⟩) (.inr ⟨k,0,rfl,by omega,by omega,rfl⟩) (.inl ⟨rfl,rfl⟩)
 unfold AN at hD;split at hD
 ·-- Yb never changes
  rename_i sz n hh;split at hD
  ·rename_i e ei Vw;obtain⟨inf,z,ht,UX,hs,-⟩:=cD Vw;obtain⟨ad,cap,e1,e3,e4⟩:=hx;have Wz:den ρ (.rs sz n hh) (.slice ad n cap):=⟨ad,cap,rfl,e3,e4⟩
   split at hD;rename_i b1;have b1:=Nb b1;split at hD;rename_i k b hb;obtain⟨o1,o2⟩:=jA hD ho;refine⟨_,dz hD ?_,dq (l:=0) (h:=b.toNat) (m:=cap) e1 ht UX ?_⟩;have:=qJ (l:=0) (h:=b.toNat) (by omega) (by omega) Wz;simp only[B'] at this;rw[hs,b1];exact this;rw[n1 h1,s1 h2 hb,n1 h3];exact aX (.inl ⟨rfl,rfl⟩) (.inr ⟨k,b,rfl,o1,by omega,rfl⟩) (.inl ⟨rfl,rfl⟩);cases hD;rename_i b1;have b1:=Nb b1;split at hD;rename_i k b hb;obtain⟨o1,o2⟩:=jA hD ho;refine⟨_,dz hD ?_,dq (l:=b.toNat) (h:=n) (m:=cap) e1 ht UX ?_⟩;have:=qJ (l:=b.toNat) (h:=n) (by omega) (by omega) Wz;rw[hs,b1];exact this;rw[s1 h1 hb,n1 h2,n1 h3];exact aX (.inl ⟨rfl,rfl⟩) (.inl ⟨rfl,rfl,rfl⟩) (.inr ⟨k,b,rfl,o1,by omega,rfl⟩);cases hD;rename_i b1;have b1:=Nb b1;split at hD;rename_i k p k' q hp hq;obtain⟨o1,o2,o3⟩:=jA hD ho;refine⟨_,dz hD ?_,dq (l:=p.toNat) (h:=q.toNat) (m:=cap) e1 ht UX ?_⟩;have:=qJ (l:=p.toNat) (h:=q.toNat) (by omega) (by omega) Wz;rw[hs,b1];exact this;rw[s1 h1 hp,s1 h2 hq,n1 h3];exact aX (.inl ⟨rfl,rfl⟩) (.inr ⟨k',q,rfl,by omega,by omega,rfl⟩) (.inr ⟨k,p,rfl,o1,by omega,rfl⟩);cases hD;obtain⟨y,q1,q2⟩:=Xx e inf ad n cap _ _ ht UX e1 (n1 h1) (z1 h2) (z1 h3);exact⟨y,bg hD q1,q2⟩;rename_i b1;have b1:=Nb b1;refine⟨_,bg hD ?_,dq (l:=0) (h:=n) (m:=cap) e1 ht UX ?_⟩;have:=qJ (l:=0) (h:=n) (by omega) (by omega) Wz;simp only[B'] at this;rw[hs,b1];exact this;rw[n1 h1,n1 h2,n1 h3];exact aX (.inl ⟨rfl,rfl⟩) (.inl ⟨rfl,rfl,rfl⟩) (.inl ⟨rfl,rfl⟩);cases hD
  cases hD
 ·-- a list of one's own
  rename_i m e0 sz off n;split at hD;rename_i e ei Vw;obtain⟨inf,z,ht,UX,hs,-⟩:=cD Vw;have hx0:=hx;obtain⟨lv,p1,po,p2,p3,ad,e1,p5⟩:=hx;have Wz:den ρ (.g m e0 sz off n) (.slice ad n (lv.cap-off)):=(by rw[<-e1];exact hx0);have e3:n<=lv.cap-off:=(by omega);generalize lv.cap-off=cap at e1 Wz e3;split at hD;rename_i b1;have b1:=Nb b1;split at hD;rename_i k b hb;obtain⟨o1,o2⟩:=jA hD ho;refine⟨_,dz hD ?_,dq (l:=0) (h:=b.toNat) (m:=cap) e1 ht UX ?_⟩;have:=wL (l:=0) (h:=b.toNat) (by omega) (by omega) Wz;rw[hs,b1];exact this;rw[n1 h1,s1 h2 hb,n1 h3];exact aX (.inl ⟨rfl,rfl⟩) (.inr ⟨k,b,rfl,o1,by omega,rfl⟩) (.inl ⟨rfl,rfl⟩);cases hD;rename_i b1;have b1:=Nb b1;split at hD;rename_i k b hb;obtain⟨o1,o2⟩:=jA hD ho;refine⟨_,dz hD ?_,dq (l:=b.toNat) (h:=n) (m:=cap) e1 ht UX ?_⟩;have:=wL (l:=b.toNat) (h:=n) (by omega) (by omega) Wz;rw[hs,b1];exact this;rw[s1 h1 hb,n1 h2,n1 h3];exact aX (.inl ⟨rfl,rfl⟩) (.inl ⟨rfl,rfl,rfl⟩) (.inr ⟨k,b,rfl,o1,by omega,rfl⟩);cases hD;rename_i b1;have b1:=Nb b1;split at hD;rename_i k p k' q hp hq;obtain⟨o1,o2,o3⟩:=jA hD ho;refine⟨_,dz hD ?_,dq (l:=p.toNat) (h:=q.toNat) (m:=cap) e1 ht UX ?_⟩;have:=wL (l:=p.toNat) (h:=q.toNat) (by omega) (by omega) Wz;rw[hs,b1];exact this;rw[s1 h1 hp,s1 h2 hq,n1 h3];exact aX (.inl ⟨rfl,rfl⟩) (.inr ⟨k',q,rfl,by omega,by omega,rfl⟩) (.inr ⟨k,p,rfl,o1,by omega,rfl⟩);cases hD;obtain⟨y,q1,q2⟩:=Xx e inf ad n cap _ _ ht UX e1 (n1 h1) (z1 h2) (z1 h3);exact⟨y,bg hD q1,q2⟩;rename_i b1;have b1:=Nb b1;refine⟨_,bg hD ?_,dq (l:=0) (h:=n) (m:=cap) e1 ht UX ?_⟩;have:=wL (l:=0) (h:=n) (by omega) (by omega) Wz;rw[hs,b1];exact this;rw[n1 h1,n1 h2,n1 h3];exact aX (.inl ⟨rfl,rfl⟩) (.inl ⟨rfl,rfl,rfl⟩) (.inl ⟨rfl,rfl⟩);cases hD;cases hD
 rename_i n sz off len cap;split at hD;rename_i e ei Vw;obtain⟨inf,z,ht,UX,hs,-⟩:=cD Vw;obtain⟨b,hb,e1⟩:=hx;split at hD;refine⟨_,bg hD ?_,dq (l:=0) (h:=len) (m:=cap) e1 ht UX ?_⟩;refine⟨b,hb,?_⟩;rw[su];simp;rw[n1 h1,n1 h2,n1 h3];exact aX (.inl ⟨rfl,rfl⟩) (.inl ⟨rfl,rfl,rfl⟩) (.inl ⟨rfl,rfl⟩);obtain⟨y,q1,q2⟩:=Xx e inf _ len cap _ _ ht UX e1 (n1 h1) (z1 h2) (z1 h3);exact⟨y,bg hD q1,q2⟩;cases hD;cases hD;rename_i n off;split at hD;rename_i len e ei Vw;obtain⟨inf,d,ht,UX,hs,-⟩:=jl Vw;obtain⟨b,hb,e1⟩:=hx;split at hD;rename_i k;refine⟨_,bg hD ?_,y8 (l:=0) (h:=k+1) (m:=k+1) e1 ht UX ?_⟩;refine⟨b,hb,?_⟩;rw[Uv (by omega),bM];simp;rw[n1 h1,n1 h2,n1 h3];exact aX (.inl ⟨rfl,rfl⟩) (.inl ⟨rfl,rfl,rfl⟩) (.inl ⟨rfl,rfl⟩);cases hD;cases hD;split at hD;rename_i ei Vw;obtain⟨inf,z,ht,UX,hs,-⟩:=cD (e:=ei.1) (ei:=ei.2) Vw;obtain⟨ad,e1⟩:=hx;refine⟨_,bg hD ?_,dq (l:=0) (h:=0) (m:=0) e1 ht UX ?_⟩;exact⟨_,rfl⟩;rw[n1 h1,n1 h2,n1 h3];exact aX (.inl ⟨rfl,rfl⟩) (.inl ⟨rfl,rfl,rfl⟩) (.inl ⟨rfl,rfl⟩);rename_i ei k k' Vw;obtain⟨inf,z,ht,UX,hs,-⟩:=cD (e:=ei.1) (ei:=ei.2) Vw;obtain⟨ad,e1⟩:=hx;obtain⟨y,q1,q2⟩:=Xx _ inf ad 0 0 _ _ ht UX e1 (n1 h1) (z1 h2) (z1 h3);exact⟨y,bg hD q1,q2⟩;rename_i ei k Vw;obtain⟨inf,z,ht,UX,hs,-⟩:=cD (e:=ei.1) (ei:=ei.2) Vw;obtain⟨ad,e1⟩:=hx;refine⟨_,bg hD ?_,dq (l:=0) (h:=0) (m:=0) e1 ht UX ?_⟩;exact⟨_,rfl⟩;rw[n1 h1,z1 h2,n1 h3];exact aX (.inl ⟨rfl,rfl⟩) (.inr ⟨_,0,rfl,by omega,by omega,rfl⟩) (.inl ⟨rfl,rfl⟩);cases hD;split at hD;rename_i ei Vw;obtain⟨inf,z,ht,UX,hs,-⟩:=cD (e:=ei.1) (ei:=ei.2) Vw;have e1:a.eval x=_:=hx;refine⟨_,bg hD ?_,dq (l:=0) (h:=0) (m:=0) e1 ht UX ?_⟩;exact⟨_,rfl⟩;rw[n1 h1,n1 h2,n1 h3];exact aX (.inl ⟨rfl,rfl⟩) (.inl ⟨rfl,rfl,rfl⟩) (.inl ⟨rfl,rfl⟩);rename_i ei k k' Vw;obtain⟨inf,z,ht,UX,hs,-⟩:=cD (e:=ei.1) (ei:=ei.2) Vw;have e1:a.eval x=_:=hx;obtain⟨y,q1,q2⟩:=Xx _ inf none 0 0 _ _ ht UX e1 (n1 h1) (z1 h2) (z1 h3);exact⟨y,bg hD q1,q2⟩;rename_i ei k Vw;obtain⟨inf,z,ht,UX,hs,-⟩:=cD (e:=ei.1) (ei:=ei.2) Vw;have e1:a.eval x=_:=hx;refine⟨_,bg hD ?_,dq (l:=0) (h:=0) (m:=0) e1 ht UX ?_⟩;exact⟨_,rfl⟩;rw[n1 h1,z1 h2,n1 h3];exact aX (.inl ⟨rfl,rfl⟩) (.inr ⟨_,0,rfl,by omega,by omega,rfl⟩) (.inl ⟨rfl,rfl⟩);cases hD;cases hD
end
end Go.Proofs.YtgigkennhdolpaaGreatDoor
