/- A symbolic executor with lists, 7. -/
import Derived.Test.YtgigkennhdolpaaGreatDoorM6
namespace Go.Proofs.YtgigkennhdolpaaGreatDoor
open Go.RowKit
section
variable {PP:Program}{C:Cx PP}{op:ZD}{a:Act}{ρ:Names}{W W':World}{H:aY}{nm:Nat}
def xT(W:World)(b o n:Nat):List Value:=(List.range n).map λj=>(W.cell? ⟨b,o+j,none⟩).getD undef
theorem rO{b o n j:Nat}{v:Value}(hj:j<n)(h:W.cell? ⟨b,o+j,none⟩=some v):(xT W b o n)[j]? = some v:=by simp[xT,List.getElem?_range hj,h]
def Ag(ρ:Names)(sz m:Nat)(k:Nat->List SV)(news:List Value):Prop:=∀i,i<m->∃us,aj ρ.zo (k i) us∧us.length=sz∧∀(q:Nat) (c:Value),us[q]? = some c->news[i*sz+q]? = some c
theorem vN{P:Program}{b o m sz:Nat}{k:Nat->List SV}(Xc:0<sz)(h:∀i,i<m->∃us,aj ρ.zo (k i) us∧us.length=sz∧∀(q:Nat) (c:Value),us[q]? = some c->W.cell? ⟨b,o+i*sz+q,none⟩=some c∧c.oneCell'=true)(len cap:Nat) :
  eY P W sz m (.slice (some ⟨b,o,none⟩) len cap) (xT W b o (m*sz))∧(∀c∈xT W b o (m*sz),c.oneCell'=true)∧Ag ρ sz m k (xT W b o (m*sz)):=by
 have U1:∀j,j<m*sz->∃c,W.cell? ⟨b,o+j,none⟩=some c∧c.oneCell'=true:=by intro j hj;have h1:j/sz<m:=Nat.div_lt_of_lt_mul (by rw[Nat.mul_comm];exact hj);obtain⟨us,-,k2,k3⟩:=h (j/sz) h1;have h2:j%sz<us.length:=(by rw[k2];exact Nat.mod_lt _ Xc);have h3:=k3 (j%sz) us[j%sz] (by simp[h2]);have h4:o+j/sz*sz+j%sz=o+j:=(by have:=Nat.div_add_mod' j sz;omega);rw[h4] at h3;exact⟨_,h3⟩
 refine⟨dU (by simp[xT]) λj u hj=>?_,λc hc=>?_,λi hi=>?_⟩;have UY:j<m*sz:=(by have:=(J'.1 hj).1;simpa[xT] using this);obtain⟨c,h1,-⟩:=U1 j UY;rw[rO UY h1] at hj;rw[bM,<-Oi hj];exact h1;obtain⟨j,hj⟩:=List.mem_iff_getElem?.1 hc;have UY:j<m*sz:=(by have:=(J'.1 hj).1;simpa[xT] using this);obtain⟨c',h1,h2⟩:=U1 j UY;rw[rO UY h1] at hj;rw[<-Oi hj];exact h2;obtain⟨us,k1,k2,k3⟩:=h i hi;refine⟨us,k1,k2,λq c hq=>?_⟩;have hql:q<sz:=by rw[<-k2];exact(J'.1 hq).1
 have UY:i*sz+q<m*sz:=by have:i*sz+sz<=m*sz:=(by rw[<-Nat.succ_mul];exact Uz _ hi);omega
 exact rO UY (by rw[<-Nat.add_assoc];exact(k3 q c hq).1)
theorem HA(hH:VQ C H ρ W){sz m:Nat}{k:Nat->List SV}{y:SV}{v:Value}(Xc:0<sz)(h:HC H sz y=some (m,k))(hd:den ρ y v) :
  ∃ad c news,v=.slice ad m c∧eY C.P W sz m v news∧(∀c∈news,c.oneCell'=true)∧Ag ρ sz m k news:=by
 have Xx:∀(ad:Option Addr) (c:Nat),eY C.P W sz 0 (.slice ad 0 c) []:=λad c=>by
  cases ad with
  | none=>exact jh
  | some ad=>exact dU (by simp) λj u hj=>by simp at hj
 have X3:∀(ad:Option Addr) (c:Nat) (k:Nat->List SV),∃ad' c' news,Value.slice ad 0 c=.slice ad' 0 c'∧eY C.P W sz 0 (.slice ad 0 c) news∧(∀c∈news,c.oneCell'=true)∧Ag ρ sz 0 k news:=
  λad c k=>⟨ad,c,[],rfl,Xx ad c,(λc hc=>by cases hc),λi hi=>Up hi (by omega)⟩
 unfold HC at h;split at h;obtain⟨rfl,rfl⟩:=P' (Oi h);obtain⟨ad,rfl⟩:=hd;exact X3 ad 0 _;obtain⟨rfl,rfl⟩:=P' (Oi h);obtain rfl:v=_:=hd;exact X3 none 0 _;split at h;rename_i U9 n hh _ hb;have hb:=Nb hb;subst hb;obtain⟨rfl,rfl⟩:=P' (Oi h);obtain⟨ad,cap,rfl,e2,e3⟩:=hd;rcases Nat.eq_zero_or_pos n with rfl|hn;exact X3 ad cap _;obtain⟨b,o,u,rfl,-⟩:=e3 0 hn;have key:=vN (P:=C.P) (ρ:=ρ) (W:=W) (b:=b) (o:=o) (m:=n) (k:=hh) Xc (λi hi=>by obtain⟨b',o',u',k1,k2,k3,k4⟩:=e3 i hi;injection k1 with k1;injection k1 with k1 k1';subst k1 k1';exact⟨u',k2,k3,λq c hc=>hH.hb.zok _ _ _ (k4 q c hc)⟩) n cap;exact⟨_,_,_,rfl,key⟩;cases h;split at h;rename_i l e U9 off n _ _ N hh t hl hb;have hb:=Nb hb;subst hb;obtain⟨rfl,rfl⟩:=P' (Oi h);obtain⟨ad,cap,rfl,e2,e3⟩:=mi hH (qU hl) hd;rcases Nat.eq_zero_or_pos n with rfl|hn;exact X3 ad cap _;obtain⟨b,o,u,rfl,-⟩:=e3 0 hn;have key:=vN (P:=C.P) (ρ:=ρ) (W:=W) (b:=b) (o:=o) (m:=n) (k:=λi=>hh (off+i)) Xc (λi hi=>by obtain⟨b',o',u',k1,k2,k3,k4⟩:=e3 i hi;injection k1 with k1;injection k1 with k1 k1';subst k1 k1';exact⟨u',k2,k3,k4.1⟩) n cap;exact⟨_,_,_,rfl,key⟩;cases h;split at h;rename_i l i U9 off n _ _ e esz N hh p g tk t hl hb;have hb:=Nb hb;subst hb;obtain⟨rfl,rfl⟩:=P' (Oi h);obtain⟨ad,cap,rfl,e2,e3⟩:=pe hH (ot hl) hd;rcases Nat.eq_zero_or_pos n with rfl|hn;exact X3 ad cap _;obtain⟨b,o,u,rfl,-⟩:=e3 0 hn;have key:=vN (P:=C.P) (ρ:=ρ) (W:=W) (b:=b) (o:=o) (m:=n) (k:=λj=>(g i).2 (off+j)) Xc (λi hi=>by obtain⟨b',o',u',k1,k2,k3,k4⟩:=e3 i hi;injection k1 with k1;injection k1 with k1 k1';subst k1 k1';exact⟨u',k2,k3,k4.1⟩) n cap;exact⟨_,_,_,rfl,key⟩;cases h
 ·split at h
  ·rename_i n U9 off len cap _ _ cs t hl hb;have hb:=Nb hb;subst hb;split at h
   ·rename_i l hlaid;have hl2:=dj hlaid;obtain⟨b,e1,rfl⟩:=hd;obtain⟨b',vs,k1,k2,k3,k4,k5⟩:=hH.blk n _ (kJ hl);rw[e1] at k1;obtain rfl:=Oi k1;have key:∀(k:Nat->List SV),Nat.beq l.length (len*sz)=true->da l=true->(∀i,i<len->k i=chunk l sz i)->
      ∃ad c news,Value.slice (some ⟨b,off,none⟩) len cap=.slice ad len c∧eY C.P W sz len (.slice (some ⟨b,off,none⟩) len cap) news∧(∀c∈news,c.oneCell'=true)∧Ag ρ sz len k news:=by
     intro k b1 b2 hk;have b1:=Nb b1;have Y3:aj ρ.zo l ((vs.drop off).take (len*sz)):=cu _ _ b2 (by rw[hl2];exact cW _ (bP _ k2));have hlen:=aB Y3;rw[b1] at hlen;refine⟨_,_,_,rfl,vN (P:=C.P) (ρ:=ρ) (W:=W) (b:=b) (o:=off) (m:=len) (k:=k) Xc (λi hi=>?_) len cap⟩;rw[hk i hi];refine⟨_,iF sz i Y3,?_,λq c hq=>?_⟩;have:i*sz+sz<=len*sz:=(by rw[<-Nat.succ_mul];exact Uz _ hi);rw[List.length_take,List.length_drop,hlen];omega;rw[List.getElem?_take] at hq;split at hq;rw[List.getElem?_drop,List.getElem?_take] at hq;split at hq;rw[List.getElem?_drop] at hq;refine⟨?_,k4 c (UF hq)⟩;rw[k3.cell];simpa[Nat.add_assoc] using hq;cases hq;cases hq
    split at h;have b2:da l=true:=(by assumption);have b1:Nat.beq l.length (1*sz)=true:=(by assumption);obtain⟨rfl,rfl⟩:=P' (Oi h);refine key _ b1 b2 λi hi=>?_;obtain rfl:i=0:=(by omega);have b1:=Nb b1;simp only[chunk,Nat.zero_mul,List.drop_zero];rw[List.take_of_length_le (by omega)];have b2:da l=true:=(by assumption);obtain⟨rfl,rfl⟩:=P' (Oi h);exact key _ (by assumption) b2 λi hi=>rfl;cases h
   cases h
  cases h
 cases h
theorem cD{t e:Nat}{ei:TI}(h:gN C t=some (e,ei)):∃i z,C.P.underlying t=some (.slice e)∧C.P.info? e=some i∧i.size=ei.sz∧i.bytes=ei.nb∧i.zero=some z∧eH z.cells.toList ei.z=true:=by
 unfold gN at h;split at h;cases h;rename_i ti Vz;obtain⟨i,d,z,hi,WQ,hs,hz,Wh,hk,-⟩:=(C.ty Vz).ex;split at h;cases h;rename_i e' he;split at h
 ·rename_i ei' Vw;obtain⟨rfl,rfl⟩:=P' (Oi h);obtain⟨i2,d2,z2,YP,hdd2,VH,YX,Yd,X1,Vi⟩:=(C.ty Vw).ex;have hd:d=.slice e':=by
   cases V6:ti.k with
   | sl e2=>
    rw[V6] at he hk;obtain rfl:=Oi he;cases d with
    | slice e3=>simp only[aR,beq_iff_eq] at hk;rw[hk]
    | _=>simp[aR] at hk
   | _=>rw[V6] at he;cases he
  subst hd;exact⟨i2,z2,WQ,YP,VH,Vi,YX,Yd⟩
 cases h
theorem jl{t len e:Nat}{ei:TI}(h:uj C t=some (len,e,ei)):∃i d,C.P.underlying t=some (.array len e)∧C.P.info? e=some i∧i.size=ei.sz∧C.P.underlying e=some d∧aR d ei.k=true:=by unfold uj at h;split at h;cases h;rename_i ti Vz;obtain⟨i,d,z,hi,WQ,hs,hz,Wh,hk,-⟩:=(C.ty Vz).ex;split at h;rename_i n e' WJ;split at h;rename_i ei' Vw;obtain⟨rfl,h2⟩:=P' (Oi h);obtain⟨rfl,rfl⟩:=P' h2;obtain⟨i2,d2,z2,YP,hdd2,VH,YX,Yd,X1,Vi⟩:=(C.ty Vw).ex;rw[WJ] at hk;have hd:d=.array n e':=(by cases d<;>simp[aR] at hk;obtain⟨rfl,rfl⟩:=hk;rfl);subst hd;exact⟨i2,d2,WQ,YP,VH,hdd2,X1⟩;cases h;cases h
theorem fits{n:Nat}{i:TypeInfo}{nb:Nat}(h:dW n nb)(e:i.bytes=nb):n<=maxLen∧n*i.bytes<=140737488355328:=by rw[e];exact h
theorem jC{z:Value}{l:List SV}{n:Nat}(h:eH z.cells.toList l=true):∀c∈(Builtin.zeroCells z.cells n).toList,c.oneCell'=true:=by intro c hc;simp only[Builtin.zeroCells,Array.toList_map,Array.toList_range,List.mem_map,List.mem_range] at hc;obtain⟨j,hj,rfl⟩:=hc;rcases Nat.eq_zero_or_pos z.cells.size with h0|h0;rw[h0] at hj;simp at hj;have hm:j%z.cells.size<z.cells.size:=Nat.mod_lt _ h0;rw[getElem!_pos z.cells _ hm];exact lj h _ (by simp)
theorem jD(z:Array Value)(n:Nat):(Builtin.zeroCells z n).toList.length=n*z.size:=by simp[Builtin.zeroCells]
theorem xi(hb:HB C ρ W)(hf:ρ.v nm=none){t ty e:TypeId}{i:TypeInfo}{z:Value}{ei:TI}(ht:C.P.underlying t=some (.slice e))(hi:C.P.info? e=some i)(hs:i.size=ei.sz)(Z7:i.bytes=ei.nb)(hz:i.zero=some z)(Wh:eH z.cells.toList ei.z=true)(YK:ei.z.length=ei.sz)
  {ad ad':Option Addr} {m c:Nat} {k:Nat->List SV} {news:List Value} (hn:eY C.P W ei.sz m (.slice ad' m c) news) (h1:∀c∈news,c.oneCell'=true) (hk:Ag ρ ei.sz m k news) (Vn:dW m ei.nb) :
  ∃y W',(Builtin.append_ #[t,t] ty #[.slice ad 0 0,.slice ad' m c]).run C.P W=.ok y W'∧fj C ρ W nm ⟨some (dW m ei.nb),.g nm nm ei.sz 0 m,some (nm,.lst nm ei.sz m k e),true⟩ y W':=by
 have hlen:=hn.1;have ZX:z.cells.size=ei.sz:=by have:=aB (cq (ρ:=ρ) Wh);rw[<-YK,<-this];simp
 rcases Nat.eq_zero_or_pos m with rfl|hm;obtain rfl:news=[]:=List.eq_nil_of_length_eq_zero (by simpa using hlen);refine⟨_,W,p8 ht hi (by rw[hs];exact hn) (I' _),ρ.fT nm ⟨nm,ad,0,0⟩,eT (l:=⟨nm,ad,0,0⟩) hb hf (Gr.refl W) (λh=>Up rfl h),λn sb h=>?_,?_⟩;obtain⟨rfl,rfl⟩:=P' (Oi h);exact⟨_,Names.aN,rfl,rfl,I' _,λh=>Up rfl h⟩;exact⟨_,Names.aN,rfl,I' _,I' _,ad,rfl,λh=>Up rfl h⟩;have Xx:eY C.P W i.size 0 (.slice ad 0 0) []:=by
  cases ad with
  | none=>exact jh
  | some ad=>exact dU (by simp) λj u hj=>by simp at hj
 have ZM:=fits (i:=i) Vn Z7;have Zv:=grownCap_ge W (0+m) 0 e;have UU:=ia (P:=C.P) (w:=W) (ty:=ty) (c:=c) ht hi hz Xx (by rw[hs];exact hn) (by omega) (by simpa using ZM.1) (by simpa using ZM.2);have g:Gr W (W.drew.alloc (.cells ((#[]:Array Value)++news.toArray++Builtin.zeroCells z.cells (grownCap W (0+m) 0 e-(0+m))) e)):=(Gr.refl W).drew.alloc _;refine⟨_,_,UU,ρ.fT nm ⟨nm,some ⟨W.heap.size,0,none⟩,grownCap W (0+m) 0 e,m⟩,eT (l:=⟨nm,some ⟨W.heap.size,0,none⟩,grownCap W (0+m) 0 e,m⟩) hb hf g (λ_ b o h=>?_),λn sb h=>?_,?_⟩;injection h with h;injection h with h;subst h;exact⟨I' _,by simp⟩
 ·obtain⟨rfl,rfl⟩:=P' (Oi h);refine⟨_,Names.aN,rfl,rfl,(by show m<=grownCap W (0+m) 0 e;omega),λ_=>⟨W.heap.size,news++(Builtin.zeroCells z.cells (grownCap W (0+m) 0 e-(0+m))).toList,rfl,?_,?_,?_,?_,?_⟩⟩;have:WV (W.drew.alloc (.cells ((#[]:Array Value)++news.toArray++Builtin.zeroCells z.cells (grownCap W (0+m) 0 e-(0+m))) e)) W.heap.size _ e:=WV.new (w:=W.drew) rfl;have e2:(news++(Builtin.zeroCells z.cells (grownCap W (0+m) 0 e-(0+m))).toList).toArray=(#[]:Array Value)++news.toArray++Builtin.zeroCells z.cells (grownCap W (0+m) 0 e-(0+m)):=(by apply Array.ext';simp);rw[e2];exact this
  ·rw[List.length_append,hlen,jD,ZX,<-Nat.add_mul]
   congr 1
   dsimp only;omega
  intro c hc;rcases UC.1 hc with hc|hc;exact h1 c hc;exact jC Wh c hc;intro i' c V5;have:=iu (hb.zok _ i' c V5).1;omega;intro i' VT;obtain⟨us,k1,k2,k3⟩:=hk i' VT;exact⟨us,k1,k2,λq c hq=>by have:=k3 q c hq;rw[M' (J'.1 this).1];exact this⟩
 refine⟨_,Names.aN,rfl,by simp,(by show m<=grownCap W (0+m) 0 e;omega),some ⟨W.heap.size,0,none⟩,by simp,λ_=>⟨W.heap.size,rfl,by simp⟩⟩
theorem zU{n i:Nat}{h k:Nat->List SV}{us:List Value}(hi:i<n)(ha:∀j,eV (k j) (h i))(hd:aj ρ (h i) us):aj ρ (Kf n h k i) us:=by
 have hb:Nat.ble n i=false:=by
  cases hb:Nat.ble n i with
  | false=>rfl
  | true=>have:=L' hb;omega
 unfold Kf;rw[hb];exact cI _ _ _ (ha _) hd
theorem tH{n i:Nat}{h k:Nat->List SV}{us:List Value}(hi:n<=i)(hd:aj ρ (k (i-n)) us):aj ρ (Kf n h k i) us:=by have hb:Nat.ble n i=true:=Nat.ble_eq_true_of_le hi;unfold Kf;rw[hb];exact fw _ _ _ hd
theorem QU(hH:VQ C H ρ W)(hf:ρ.v nm=none){t ty:TypeId}{x y:SV}{u v:Value}{r:DR}(hD:Kg C H nm t x y=some r)(ho:r.Ob)(hx:den ρ x u)(hy:den ρ y v) :
  ∃w W',(Builtin.append_ #[t,t] ty #[u,v]).run C.P W=.ok w W'∧fj C ρ W nm r w W':=by
 unfold Kg at hD;split at hD;cases hD;rename_i e ei Vw;obtain⟨i,z,ht,hi,hs,Z7,hz,Wh⟩:=cD Vw;split at hD
 ·rename_i m k b0 b1 hr;have Xc:0<ei.sz:=(by rcases Nat.eq_zero_or_pos ei.sz with h|h;rw[h] at b0;cases b0;exact h);have YK:=Nb b1;have ZX:z.cells.size=ei.sz:=(by have:=aB (cq (ρ:=ρ) Wh);rw[<-YK,<-this];simp);obtain⟨ad',c',news,rfl,hn,h1,hk⟩:=HA hH Xc hr hy;split at hD;obtain rfl:=Oi hD;obtain⟨ad,rfl⟩:=hx;exact xi hH.hb hf ht hi hs Z7 hz Wh YK hn h1 hk ho;obtain rfl:=Oi hD;obtain rfl:u=_:=hx;exact xi hH.hb hf ht hi hs Z7 hz Wh YK hn h1 hk ho
  ·rename_i l ep sz n;split at hD
   ·rename_i N h e' hl b2;have b2:=Nb b2;subst b2;split at hD
    ·rename_i b3;have b3:=Nb b3;subst b3;obtain rfl:=Oi hD;obtain⟨Vn,halike⟩:=ho;have ZM:=fits (i:=i) Vn Z7;obtain⟨lv,p1,po,p2,p3,a',rfl,p5⟩:=hx;obtain⟨lv',q1,q2,q3,q4,q5⟩:=hH.blk l _ (qU hl);rw[p1] at q1;obtain rfl:=Oi q1;simp only[Nat.sub_zero,B',Nat.zero_mul] at p2 p5 ⊢;have hlen:=hn.1;by_cases hc:lv.cap=0
     ·-- no room at all: it was empty
      obtain rfl:n=0:=(by omega);rw[hc];obtain⟨w,W',k1,UL,k2,k3,k4⟩:=xi (ty:=ty) (ad:=a') hH.hb hf ht hi hs Z7 hz Wh YK hn h1 hk (by simpa using Vn);rcases Nat.eq_zero_or_pos m with rfl|hm;obtain rfl:news=[]:=List.eq_nil_of_length_eq_zero (by simpa using hlen);refine⟨_,W,p8 ht hi (by rw[hs];exact hn) (I' _),ρ.fT nm ⟨l,a',0,0⟩,Fb (l:=⟨l,a',0,0⟩) hH.hb hf (λh=>Up rfl h),λn' Vu h'=>?_,?_⟩;obtain⟨rfl,rfl⟩:=P' (Oi h');exact⟨_,Names.aN,rfl,rfl,I' _,λh=>Up rfl h⟩;exact⟨_,Names.aN,rfl,I' _,I' _,a',rfl,λh=>Up rfl h⟩;have Xx:eY C.P W i.size 0 (.slice a' 0 0) []:=by
       cases a' with
       | none=>exact jh
       | some ad=>exact dU (by simp) λj u hj=>by simp at hj
      have Zv:=grownCap_ge W (0+m) 0 e;have UU:=ia (P:=C.P) (w:=W) (ty:=ty) (c:=c') ht hi hz Xx (by rw[hs];exact hn) (by omega) (by simpa using ZM.1) (by simpa using ZM.2);have g:Gr W (W.drew.alloc (.cells ((#[]:Array Value)++news.toArray++Builtin.zeroCells z.cells (grownCap W (0+m) 0 e-(0+m))) e)):=(Gr.refl W).drew.alloc _;refine⟨_,_,UU,ρ.fT nm ⟨l,some ⟨W.heap.size,0,none⟩,grownCap W (0+m) 0 e,m⟩,eT (l:=⟨l,some ⟨W.heap.size,0,none⟩,grownCap W (0+m) 0 e,m⟩) hH.hb hf g (λ_ b o h=>?_),λn' Vu h'=>?_,?_⟩;injection h with h;injection h with h;subst h;exact⟨I' _,by simp⟩
      ·obtain⟨rfl,rfl⟩:=P' (Oi h');refine⟨_,Names.aN,rfl,(by show m=0+m;omega),(by show 0+m<=grownCap W (0+m) 0 e;omega),λ_=>⟨W.heap.size,news++(Builtin.zeroCells z.cells (grownCap W (0+m) 0 e-(0+m))).toList,rfl,?_,?_,?_,?_,?_⟩⟩;have:WV (W.drew.alloc (.cells ((#[]:Array Value)++news.toArray++Builtin.zeroCells z.cells (grownCap W (0+m) 0 e-(0+m))) e)) W.heap.size _ e:=WV.new (w:=W.drew) rfl;have e2:(news++(Builtin.zeroCells z.cells (grownCap W (0+m) 0 e-(0+m))).toList).toArray=(#[]:Array Value)++news.toArray++Builtin.zeroCells z.cells (grownCap W (0+m) 0 e-(0+m)):=(by apply Array.ext';simp);rw[e2];exact this
       ·rw[List.length_append,hlen,jD,ZX,<-Nat.add_mul]
        congr 1
        dsimp only;omega
       intro c hc;rcases UC.1 hc with hc|hc;exact h1 c hc;exact jC Wh c hc;intro i' c V5;have:=iu (hH.hb.zok _ i' c V5).1;omega;intro i' VT;obtain⟨us,k1,k2,k3⟩:=hk i' (by omega);exact⟨us,tH (Ui _) (by rw[Nat.sub_zero];exact k1),k2,λq c hq=>by have:=k3 q c hq;rw[M' (J'.1 this).1];exact this⟩
      refine⟨_,Names.aN,rfl,by simp,(by show m<=grownCap W (0+m) 0 e;omega),some ⟨W.heap.size,0,none⟩,by simp,λ_=>⟨W.heap.size,rfl,by simp⟩⟩
     obtain⟨b,VD,rfl⟩:=p5 hc;obtain⟨b',cur,s1,s2,s3,s4,s5,s6⟩:=q5 hc;rw[VD] at s1;obtain rfl:b=b':=(by injection s1 with s1;injection s1);have V7:bT ρ l b:=.inr (.inl ⟨ep,lv,0,p1,q2,hc,VD⟩);by_cases VZ:n+m<=lv.cap
     ·-- in place
      have hmul:(n+m)*ei.sz<=lv.cap*ei.sz:=Uz _ VZ;rw[Nat.add_mul] at hmul;have UU:=n8 (P:=C.P) (w:=W) (ty:=ty) (c:=c') (sCap:=lv.cap) ht hi s2 (by rw[hs];exact hn) h1 VZ (by rw[hs,hlen];simp;omega);rw[hs,hlen,show cur.toArray.toList=cur by simp] at UU;refine⟨_,_,UU,ρ.fT nm ⟨l,some ⟨b,0,none⟩,lv.cap,n+m⟩,zn (l:=⟨l,some ⟨b,0,none⟩,lv.cap,n+m⟩) hH.hb hf V7 s5 rfl,λn' Vu h'=>?_,?_⟩;obtain⟨rfl,rfl⟩:=P' (Oi h');have ZL:(cur.take (n*ei.sz)).length=n*ei.sz:=(by rw[List.length_take];omega);refine⟨_,Names.aN,rfl,rfl,VZ,λ_=>⟨b,_,rfl,setRow_heap W b _ _ _ _ s2,?_,?_,s5,λi' VT=>?_⟩⟩;simp only[List.length_append,List.length_take,List.length_drop,hlen];omega;intro c hc;rcases UC.1 hc with hc|hc;rcases UC.1 hc with hc|hc;exact s4 c (List.mem_of_mem_take hc);exact h1 c hc;exact s4 c (List.mem_of_mem_drop hc);rcases Nat.lt_or_ge i' n with UY|Zv;obtain⟨us,k1,k2,k3⟩:=s6 i' (by omega);refine⟨us,zU UY (halike i' UY) k1,k2,λq c hq=>?_⟩;have hql:q<ei.sz:=(by rw[<-k2];exact(J'.1 hq).1);have hmul2:i'*ei.sz+ei.sz<=n*ei.sz:=(by rw[<-Nat.succ_mul];exact Uz _ UY);rw[List.append_assoc,M' (by omega),Uy (by omega)];exact k3 q c hq;obtain⟨us,k1,k2,k3⟩:=hk (i'-n) (by omega);refine⟨us,tH Zv k1,k2,λq c hq=>?_⟩;have h3:=k3 q c hq;have h4:i'*ei.sz+q=n*ei.sz+((i'-n)*ei.sz+q):=(by rw[<-Nat.add_assoc,<-Nat.add_mul];congr 2;omega);rw[List.append_assoc,O' (by omega),ZL,M' (by have:=(J'.1 h3).1;omega)];rw[h4,Nat.add_sub_cancel_left];exact h3;exact⟨_,Names.aN,rfl,by simp,VZ,some ⟨b,0,none⟩,by simp,λ_=>⟨b,rfl,by simp⟩⟩
     ·-- elsewhere
      have hlo:(cur.take (n*ei.sz)).length=n*ei.sz:=(by have:n*ei.sz<=lv.cap*ei.sz:=Uz _ (by omega);rw[List.length_take];omega);have hold:eY C.P W i.size n (.slice (some ⟨b,0,none⟩) n lv.cap) (cur.take (n*ei.sz)):=dU (by rw[hs];exact hlo) λj u hj=>(by rw[bM,B',s2.cell];rw[List.getElem?_take] at hj;split at hj;simpa using hj;cases hj);have Zv:=grownCap_ge W (n+m) lv.cap e;have UU:=ia (P:=C.P) (w:=W) (ty:=ty) (c:=c') ht hi hz hold (by rw[hs];exact hn) (by omega) ZM.1 ZM.2;refine⟨_,_,UU,ρ.fT nm ⟨l,some ⟨W.heap.size,0,none⟩,grownCap W (n+m) lv.cap e,n+m⟩,eT (l:=⟨l,some ⟨W.heap.size,0,none⟩,grownCap W (n+m) lv.cap e,n+m⟩) hH.hb hf ((Gr.refl W).drew.alloc _) (λ_ b o h=>?_),λn' Vu h'=>?_,?_⟩;injection h with h;injection h with h;subst h;exact⟨I' _,by simp⟩
      ·obtain⟨rfl,rfl⟩:=P' (Oi h');refine⟨_,Names.aN,rfl,rfl,Zv,λ_=>⟨W.heap.size,cur.take (n*ei.sz)++news++(Builtin.zeroCells z.cells (grownCap W (n+m) lv.cap e-(n+m))).toList,rfl,?_,?_,?_,?_,λi' VT=>?_⟩⟩;have:WV (W.drew.alloc (.cells ((cur.take (n*ei.sz)).toArray++news.toArray++Builtin.zeroCells z.cells (grownCap W (n+m) lv.cap e-(n+m))) e)) W.heap.size _ e:=WV.new (w:=W.drew) rfl;have e2:(cur.take (n*ei.sz)++news++(Builtin.zeroCells z.cells (grownCap W (n+m) lv.cap e-(n+m))).toList).toArray=(cur.take (n*ei.sz)).toArray++news.toArray++Builtin.zeroCells z.cells (grownCap W (n+m) lv.cap e-(n+m)):=(by apply Array.ext';simp);rw[e2];exact this
       ·rw[List.length_append,List.length_append,hlo,hlen,jD,ZX,<-Nat.add_mul,<-Nat.add_mul]
        congr 1
        dsimp only;omega
       intro c hc;rcases UC.1 hc with hc|hc;rcases UC.1 hc with hc|hc;exact s4 c (List.mem_of_mem_take hc);exact h1 c hc;exact jC Wh c hc;intro i' c V5;have:=iu (hH.hb.zok _ i' c V5).1;omega;rcases Nat.lt_or_ge i' n with UY|Zv;obtain⟨us,k1,k2,k3⟩:=s6 i' (by omega);refine⟨us,zU UY (halike i' UY) k1,k2,λq c hq=>?_⟩;have hql:q<ei.sz:=(by rw[<-k2];exact(J'.1 hq).1);have hmul2:i'*ei.sz+ei.sz<=n*ei.sz:=(by rw[<-Nat.succ_mul];exact Uz _ UY);rw[List.append_assoc,M' (by omega),Uy (by omega)];exact k3 q c hq;obtain⟨us,k1,k2,k3⟩:=hk (i'-n) (by omega);refine⟨us,tH Zv k1,k2,λq c hq=>?_⟩;have h3:=k3 q c hq;have h4:i'*ei.sz+q=n*ei.sz+((i'-n)*ei.sz+q):=(by rw[<-Nat.add_assoc,<-Nat.add_mul];congr 2;omega);rw[List.append_assoc,O' (by omega),hlo,M' (by have:=(J'.1 h3).1;omega)];rw[h4,Nat.add_sub_cancel_left];exact h3
      exact⟨_,Names.aN,rfl,by simp,Zv,some ⟨W.heap.size,0,none⟩,by simp,λ_=>⟨W.heap.size,rfl,by simp⟩⟩
    cases hD
   cases hD
  cases hD
 cases hD
theorem eX.keep{ρ UL:Names}{W W':World}{q:LV}{sz:Nat}{f:Nat->List SV}{t:TypeId}(h:eX ρ W q sz f t)(hz:UL.z=ρ.z)(hb:∀b,q.cap≠0->q.a=some ⟨b,0,none⟩->W'.heap[b]? = W.heap[b]?):eX UL W' q sz f t:=by
 have hzo:UL.zo=ρ.zo:=by unfold Names.zo;rw[hz]
 refine⟨h.1,λhc=>?_⟩;obtain⟨b,u,k1,k2,k3,k4,k5,k6⟩:=h.2 hc;exact⟨b,u,k1,(hb b hc k1).trans k2,k3,k4,by rw[hz];exact k5,by rw[hzo];exact k6⟩
theorem NN(hH:VQ C H ρ W)(hf:ρ.v nm=none){t ty:TypeId}{x y:SV}{u v:Value}{r:DR}(hD:Ke C H nm t x y=some r)(ho:r.Ob)(hx:den ρ x u)(hy:den ρ y v) :
  ∃w W',(Builtin.append_ #[t,t] ty #[u,v]).run C.P W=.ok w W'∧fj C ρ W nm r w W':=by
 unfold Ke at hD;split at hD;cases hD;rename_i e ei Vw;obtain⟨i,z,ht,hi,hs,Z7,hz,Wh⟩:=cD Vw;split at hD
 ·rename_i l ep sz n;split at hD
  ·rename_i N h p Vb g tk t' hl b2 b0 b1;split at hD
   ·rename_i n2 sz2 off cap2 b3;split at hD
    ·rename_i cs t2 hl2 b4;split at hD
     ·rename_i c hlc;split at hD
      ·rename_i b5;obtain rfl:=Oi hD;obtain⟨Vn,hnN⟩:=ho;have b2:=Nb b2;have b3:=Nb b3;have b4:=Nb b4;have b5:=Nb b5;subst b2 b3 b4 hnN;have Xc:0<ei.sz:=(by rcases Nat.eq_zero_or_pos ei.sz with h|h;rw[h] at b0;cases b0;exact h);have YK:=Nb b1;have ZX:z.cells.size=ei.sz:=(by have:=aB (cq (ρ:=ρ) Wh);rw[<-YK,<-this];simp);have ZM:=fits (i:=i) Vn Z7
       -- Yb is appended
       obtain⟨b',e1,rfl⟩:=hy;obtain⟨b'',vs,k1,k2,k3,k4,k5⟩:=hH.blk n2 _ (kJ hl2);rw[e1] at k1;obtain rfl:=Oi k1;have hlc:=dj hlc;obtain⟨news,hnews⟩:∃news,news=(vs.drop off).take ei.sz:=⟨_,rfl⟩
       have hdc:aj ρ c news:=(by rw[hlc,hnews];exact cW _ (bP _ k2));have hlen:news.length=ei.sz:=(by rw[aB hdc];exact b5);have h1:∀c∈news,c.oneCell'=true:=λc hc=>k4 c (by rw[hnews] at hc;exact List.mem_of_mem_drop (List.mem_of_mem_take hc));have hn:eY C.P W ei.sz 1 (.slice (some ⟨b',off,none⟩) 1 cap2) news:=dU (by omega) λj u hj=>by rw[hnews,List.getElem?_take] at hj;split at hj;rw[List.getElem?_drop] at hj;rw[bM,k3.cell];simpa using hj;cases hj
       -- Yb is there
       obtain⟨lv,p1,po,p2,p3,a',rfl,p5⟩:=hx;obtain⟨lv',K⟩:=hH.blk l _ (CO hl);have q1:=K.hv;rw[p1] at q1;obtain rfl:=Oi q1;have hNl:lv.N=n:=K.hN;simp only[Nat.sub_zero,B',Nat.zero_mul] at p2 p5 ⊢;have kidw:∀{UL:Names} {W':World},UL.k=ρ.k->UL.z=ρ.z->(∀i q b,ρ.k l i=some q->q.cap≠0->q.a=some ⟨b,0,none⟩->W'.heap[b]? = W.heap[b]?)->∀i,i<n->∃q,UL.k l i=some q∧q.N=(g i).1∧eX UL W' q Vb (g i).2 tk:=(by intro UL W' WJ V5 hh i hi;obtain⟨q,q1,q2,q3⟩:=K.kid i hi;exact⟨q,by rw[WJ];exact q1,q2,q3.keep V5 λb hc hb=>hh i q b q1 hc hb⟩);by_cases VZ:n+1<=lv.cap;have hc:lv.cap≠0:=(by omega);obtain⟨b,VD,rfl⟩:=p5 hc;obtain⟨bb,cur,s1,s2,s3,s4,s5,s6,-,s8⟩:=K.row hc;rw[VD] at s1;obtain rfl:b=bb:=(by injection s1 with s1;injection s1);have V7:bT ρ l b:=.inr (.inl ⟨ep,lv,0,p1,po,hc,VD⟩);have hmul:(n+1)*ei.sz<=lv.cap*ei.sz:=Uz _ VZ;rw[Nat.add_mul] at hmul;have UU:=n8 (P:=C.P) (w:=W) (ty:=ty) (c:=cap2) (sCap:=lv.cap) ht hi s2 (by rw[hs];exact hn) h1 VZ (by rw[hs,hlen];simp;omega);rw[hs,hlen,show cur.toArray.toList=cur by simp] at UU;refine⟨_,_,UU,ρ.fT nm ⟨l,some ⟨b,0,none⟩,lv.cap,n+1⟩,zn (l:=⟨l,some ⟨b,0,none⟩,lv.cap,n+1⟩) hH.hb hf V7 s5 rfl,λn' Vu h'=>?_,?_⟩;obtain⟨rfl,rfl⟩:=P' (Oi h');have ZL:(cur.take (n*ei.sz)).length=n*ei.sz:=(by rw[List.length_take];omega);refine⟨_,Names.aN,rfl,rfl,VZ,λ_=>⟨b,_,rfl,setRow_heap W b _ _ _ _ s2,?_,?_,s5,λi' VT=>?_,λX' Xm=>?_,s8⟩,kidw rfl rfl λi' q b2 h1 h2 h3=>eA (s8 i' q b2 h1 h2 h3),K.no,K.ne⟩;simp only[List.length_append,List.length_take,List.length_drop,hlen];omega;intro c hc;rcases UC.1 hc with hc|hc;rcases UC.1 hc with hc|hc;exact s4 c (List.mem_of_mem_take hc);exact h1 c hc;exact s4 c (List.mem_of_mem_drop hc);obtain⟨q,us,k0,k1,k2,k3⟩:=s6 i' VT;refine⟨q,us,k0,k1,k2,λq c hq=>?_⟩;have hql:q<ei.sz:=(by rw[<-k2];exact(J'.1 hq).1);have hmul2:i'*ei.sz+ei.sz<=n*ei.sz:=(by rw[<-Nat.succ_mul];exact Uz _ VT);rw[List.append_assoc,M' (by omega),Uy (by omega)];exact k3 q c hq;obtain rfl:=Oi Xm;refine⟨news,aE (Names.ik hf) _ _ hdc,hlen,λq c hq=>?_⟩;rw[List.append_assoc,O' (by omega),ZL,M' (by have:=(J'.1 hq).1;omega),Nat.add_sub_cancel_left];exact hq;exact⟨_,Names.aN,rfl,by simp,VZ,some ⟨b,0,none⟩,by simp,λ_=>⟨b,rfl,by simp⟩⟩;obtain⟨old,hold,Vr,hrows⟩:∃old,eY C.P W ei.sz n (.slice a' n lv.cap) old∧(∀c∈old,c.oneCell'=true)∧∀i,i<n->∃q us,ρ.k l i=some q∧aj ρ.zo ((h i).set p (.v (.slice q.a q.N q.cap))) us∧us.length=ei.sz∧∀k c,us[k]? = some c->old[i*ei.sz+k]? = some c:=by
        by_cases hc:lv.cap=0
        ·obtain rfl:n=0:=(by omega);refine⟨[],?_,(λc hc=>by cases hc),λi hi=>Up hi (by omega)⟩;cases a' with
         | none=>exact jh
         | some ad=>exact dU (by simp) λj u hj=>by simp at hj
        obtain⟨b,VD,rfl⟩:=p5 hc;obtain⟨bb,cur,s1,s2,s3,s4,s5,s6,-,s8⟩:=K.row hc;rw[VD] at s1;obtain rfl:b=bb:=(by injection s1 with s1;injection s1);have hlo:(cur.take (n*ei.sz)).length=n*ei.sz:=(by have:n*ei.sz<=lv.cap*ei.sz:=Uz _ (by omega);rw[List.length_take];omega);refine⟨cur.take (n*ei.sz),dU hlo λj u hj=>?_,λc hc=>s4 c (List.mem_of_mem_take hc),λi' VT=>?_⟩;rw[bM,B',s2.cell];rw[List.getElem?_take] at hj;split at hj;simpa using hj;cases hj;obtain⟨q,us,k0,k1,k2,k3⟩:=s6 i' VT;refine⟨q,us,k0,k1,k2,λq c hq=>?_⟩;have hql:q<ei.sz:=(by rw[<-k2];exact(J'.1 hq).1);have hmul2:i'*ei.sz+ei.sz<=n*ei.sz:=(by rw[<-Nat.succ_mul];exact Uz _ VT);rw[Uy (by omega)];exact k3 q c hq
       have hlo:=hold.1;have Zv:=grownCap_ge W (n+1) lv.cap e;have UU:=ia (P:=C.P) (w:=W) (ty:=ty) (c:=cap2) ht hi hz (by rw[hs];exact hold) (by rw[hs];exact hn) (by omega) ZM.1 ZM.2;have g2:Gr W (W.drew.alloc (.cells (old.toArray++news.toArray++Builtin.zeroCells z.cells (grownCap W (n+1) lv.cap e-(n+1))) e)):=(Gr.refl W).drew.alloc _;refine⟨_,_,UU,ρ.fT nm ⟨l,some ⟨W.heap.size,0,none⟩,grownCap W (n+1) lv.cap e,n+1⟩,eT (l:=⟨l,some ⟨W.heap.size,0,none⟩,grownCap W (n+1) lv.cap e,n+1⟩) hH.hb hf g2 (λ_ b o h=>?_),λn' Vu h'=>?_,?_⟩;injection h with h;injection h with h;subst h;exact⟨I' _,by simp⟩
       ·obtain⟨rfl,rfl⟩:=P' (Oi h');have kb:∀i q b,ρ.k l i=some q->q.cap≠0->q.a=some ⟨b,0,none⟩->b<W.heap.size:=λi q b k1 k2 k3=>(hH.hb.low l b (.inr (.inr ⟨i,q,0,k1,k2,k3⟩))).2;refine⟨_,Names.aN,rfl,rfl,Zv,λ_=>⟨W.heap.size,old++news++(Builtin.zeroCells z.cells (grownCap W (n+1) lv.cap e-(n+1))).toList,rfl,?_,?_,?_,?_,λi' VT=>?_,λX' Xm=>?_,λi' q b2 h1 h2 h3=>?_⟩,kidw rfl rfl λi' q b2 h1 h2 h3=>Below.block g2 b2 (kb i' q b2 h1 h2 h3),K.no,K.ne⟩;have:WV (W.drew.alloc (.cells (old.toArray++news.toArray++Builtin.zeroCells z.cells (grownCap W (n+1) lv.cap e-(n+1))) e)) W.heap.size _ e:=WV.new (w:=W.drew) rfl;have e2:(old++news++(Builtin.zeroCells z.cells (grownCap W (n+1) lv.cap e-(n+1))).toList).toArray=old.toArray++news.toArray++Builtin.zeroCells z.cells (grownCap W (n+1) lv.cap e-(n+1)):=(by apply Array.ext';simp);rw[e2];exact this
        ·have e3:ei.sz=1*ei.sz:=(by omega);rw[List.length_append,List.length_append,hlo,hlen,jD,ZX]
         conv=>lhs;lhs;rhs;rw[e3]
         rw[<-Nat.add_mul,<-Nat.add_mul]
         congr 1
         dsimp only;omega
        intro c hc;rcases UC.1 hc with hc|hc;rcases UC.1 hc with hc|hc;exact Vr c hc;exact h1 c hc;exact jC Wh c hc;intro i' c V5;have:=iu (hH.hb.zok _ i' c V5).1;omega;obtain⟨q,us,k0,k1,k2,k3⟩:=hrows i' VT;refine⟨q,us,k0,k1,k2,λq c hq=>?_⟩;have:=k3 q c hq;rw[List.append_assoc,M' (J'.1 this).1];exact this;obtain rfl:=Oi Xm;refine⟨news,aE (Names.ik hf) _ _ hdc,hlen,λq c hq=>?_⟩;rw[List.append_assoc,O' (by omega),hlo,M' (by have:=(J'.1 hq).1;omega),Nat.add_sub_cancel_left];exact hq;have:=kb i' q b2 h1 h2 h3;omega
       exact⟨_,Names.aN,rfl,by simp,Zv,some ⟨W.heap.size,0,none⟩,by simp,λ_=>⟨W.heap.size,rfl,by simp⟩⟩
      cases hD
     cases hD
    cases hD
   cases hD
  cases hD
 cases hD
end
end Go.Proofs.YtgigkennhdolpaaGreatDoor
