/- A symbolic executor with lists, 7. -/
import Derived.Test.YtgigkennhdolpaaGreatDoorM6
namespace Go.Proofs.YtgigkennhdolpaaGreatDoor
open Go.RowKit
section
variable {PP:Program}{C:Cx PP}{op:ZN}{a:Act}{ρ:Names}{W W':World}{H:bc}{nm:Nat}
def ya(W:World)(b o n:Nat):List Value:=(List.range n).map λj=>(W.cell? ⟨b,o+j,none⟩).getD undef
theorem sd{b o n j:Nat}{v:Value}(hj:j<n)(h:W.cell? ⟨b,o+j,none⟩=some v):(ya W b o n)[j]? = some v:=by simp[ya,List.getElem?_range hj,h]
def Aw(ρ:Names)(sz m:Nat)(k:Nat->List SV)(news:List Value):Prop:=∀i,i<m->∃us,ao ρ.zo (k i) us∧us.length=sz∧∀(q:Nat) (c:Value),us[q]? = some c->news[i*sz+q]? = some c
theorem vU{P:Program}{b o m sz:Nat}{k:Nat->List SV}(Xl:0<sz)(h:∀i,i<m->∃us,ao ρ.zo (k i) us∧us.length=sz∧∀(q:Nat) (c:Value),us[q]? = some c->W.cell? ⟨b,o+i*sz+q,none⟩=some c∧c.oneCell'=true)(len cap:Nat) :
  fG P W sz m (.slice (some ⟨b,o,none⟩) len cap) (ya W b o (m*sz))∧(∀c∈ya W b o (m*sz),c.oneCell'=true)∧Aw ρ sz m k (ya W b o (m*sz)):=by
 have Vb:∀j,j<m*sz->∃c,W.cell? ⟨b,o+j,none⟩=some c∧c.oneCell'=true:=by intro j hj;have h1:j/sz<m:=Nat.div_lt_of_lt_mul (by rw[Nat.mul_comm];exact hj);obtain⟨us,-,k2,k3⟩:=h (j/sz) h1;have h2:j%sz<us.length:=(by rw[k2];exact Nat.mod_lt _ Xl);have h3:=k3 (j%sz) us[j%sz] (by simp[h2]);have h4:o+j/sz*sz+j%sz=o+j:=(by have:=Nat.div_add_mod' j sz;omega);rw[h4] at h3;exact⟨_,h3⟩
 refine⟨eG (by simp[ya]) λj u hj=>?_,λc hc=>?_,λi hi=>?_⟩;have U8:j<m*sz:=(by have:=(J'.1 hj).1;simpa[ya] using this);obtain⟨c,h1,-⟩:=Vb j U8;rw[sd U8 h1] at hj;rw[bR,<-Oi hj];exact h1;obtain⟨j,hj⟩:=List.mem_iff_getElem?.1 hc;have U8:j<m*sz:=(by have:=(J'.1 hj).1;simpa[ya] using this);obtain⟨c',h1,h2⟩:=Vb j U8;rw[sd U8 h1] at hj;rw[<-Oi hj];exact h2;obtain⟨us,k1,k2,k3⟩:=h i hi;refine⟨us,k1,k2,λq c hq=>?_⟩;have hql:q<sz:=by rw[<-k2];exact(J'.1 hq).1
 have U8:i*sz+q<m*sz:=by have:i*sz+sz<=m*sz:=(by rw[<-Nat.succ_mul];exact UG _ hi);omega
 exact sd U8 (by rw[<-Nat.add_assoc];exact(k3 q c hq).1)
theorem Im(hH:VY C H ρ W){sz m:Nat}{k:Nat->List SV}{y:SV}{v:Value}(Xl:0<sz)(h:Io H sz y=some (m,k))(hd:den ρ y v) :
  ∃ad c news,v=.slice ad m c∧fG C.P W sz m v news∧(∀c∈news,c.oneCell'=true)∧Aw ρ sz m k news:=by
 have XD:∀(ad:Option Addr) (c:Nat),fG C.P W sz 0 (.slice ad 0 c) []:=λad c=>by
  cases ad with
  | none=>exact jE
  | some ad=>exact eG (by simp) λj u hj=>by simp at hj
 have Yb:∀(ad:Option Addr) (c:Nat) (k:Nat->List SV),∃ad' c' news,Value.slice ad 0 c=.slice ad' 0 c'∧fG C.P W sz 0 (.slice ad 0 c) news∧(∀c∈news,c.oneCell'=true)∧Aw ρ sz 0 k news:=
  λad c k=>⟨ad,c,[],rfl,XD ad c,(λc hc=>by cases hc),λi hi=>Uw hi (by omega)⟩
 unfold Io at h;split at h;obtain⟨rfl,rfl⟩:=P' (Oi h);obtain⟨ad,rfl⟩:=hd;exact Yb ad 0 _;obtain⟨rfl,rfl⟩:=P' (Oi h);obtain rfl:v=_:=hd;exact Yb none 0 _;split at h;rename_i Vi n hh _ hb;have hb:=Nb hb;subst hb;obtain⟨rfl,rfl⟩:=P' (Oi h);obtain⟨ad,cap,rfl,e2,e3⟩:=hd;rcases Nat.eq_zero_or_pos n with rfl|hn;exact Yb ad cap _;obtain⟨b,o,u,rfl,-⟩:=e3 0 hn;have key:=vU (P:=C.P) (ρ:=ρ) (W:=W) (b:=b) (o:=o) (m:=n) (k:=hh) Xl (λi hi=>by obtain⟨b',o',u',k1,k2,k3,k4⟩:=e3 i hi;injection k1 with k1;injection k1 with k1 k1';subst k1 k1';exact⟨u',k2,k3,λq c hc=>hH.hb.zok _ _ _ (k4 q c hc)⟩) n cap;exact⟨_,_,_,rfl,key⟩;cases h;split at h;rename_i l e Vi off n _ _ N hh t hl hb;have hb:=Nb hb;subst hb;obtain⟨rfl,rfl⟩:=P' (Oi h);obtain⟨ad,cap,rfl,e2,e3⟩:=mA hH (rq hl) hd;rcases Nat.eq_zero_or_pos n with rfl|hn;exact Yb ad cap _;obtain⟨b,o,u,rfl,-⟩:=e3 0 hn;have key:=vU (P:=C.P) (ρ:=ρ) (W:=W) (b:=b) (o:=o) (m:=n) (k:=λi=>hh (off+i)) Xl (λi hi=>by obtain⟨b',o',u',k1,k2,k3,k4⟩:=e3 i hi;injection k1 with k1;injection k1 with k1 k1';subst k1 k1';exact⟨u',k2,k3,k4.1⟩) n cap;exact⟨_,_,_,rfl,key⟩;cases h;split at h;rename_i l i Vi off n _ _ e esz N hh p g tk t hl hb;have hb:=Nb hb;subst hb;obtain⟨rfl,rfl⟩:=P' (Oi h);obtain⟨ad,cap,rfl,e2,e3⟩:=pH hH (oz hl) hd;rcases Nat.eq_zero_or_pos n with rfl|hn;exact Yb ad cap _;obtain⟨b,o,u,rfl,-⟩:=e3 0 hn;have key:=vU (P:=C.P) (ρ:=ρ) (W:=W) (b:=b) (o:=o) (m:=n) (k:=λj=>(g i).2 (off+j)) Xl (λi hi=>by obtain⟨b',o',u',k1,k2,k3,k4⟩:=e3 i hi;injection k1 with k1;injection k1 with k1 k1';subst k1 k1';exact⟨u',k2,k3,k4.1⟩) n cap;exact⟨_,_,_,rfl,key⟩;cases h
 ·split at h
  ·rename_i n Vi off len cap _ _ cs t hl hb;have hb:=Nb hb;subst hb;split at h
   ·rename_i l hlaid;have hl2:=dI hlaid;obtain⟨b,e1,rfl⟩:=hd;obtain⟨b',vs,k1,k2,k3,k4,k5⟩:=hH.blk n _ (kS hl);rw[e1] at k1;obtain rfl:=Oi k1;have key:∀(k:Nat->List SV),Nat.beq l.length (len*sz)=true->dq l=true->(∀i,i<len->k i=chunk l sz i)->
      ∃ad c news,Value.slice (some ⟨b,off,none⟩) len cap=.slice ad len c∧fG C.P W sz len (.slice (some ⟨b,off,none⟩) len cap) news∧(∀c∈news,c.oneCell'=true)∧Aw ρ sz len k news:=by
     intro k b1 b2 hk;have b1:=Nb b1;have Zc:ao ρ.zo l ((vs.drop off).take (len*sz)):=cK _ _ b2 (by rw[hl2];exact di _ (bX _ k2));have hlen:=aF Zc;rw[b1] at hlen;refine⟨_,_,_,rfl,vU (P:=C.P) (ρ:=ρ) (W:=W) (b:=b) (o:=off) (m:=len) (k:=k) Xl (λi hi=>?_) len cap⟩;rw[hk i hi];refine⟨_,kh sz i Zc,?_,λq c hq=>?_⟩;have:i*sz+sz<=len*sz:=(by rw[<-Nat.succ_mul];exact UG _ hi);rw[List.length_take,List.length_drop,hlen];omega;rw[List.getElem?_take] at hq;split at hq;rw[List.getElem?_drop,List.getElem?_take] at hq;split at hq;rw[List.getElem?_drop] at hq;refine⟨?_,k4 c (UM hq)⟩;rw[k3.cell];simpa[Nat.add_assoc] using hq;cases hq;cases hq
    split at h;have b2:dq l=true:=(by assumption);have b1:Nat.beq l.length (1*sz)=true:=(by assumption);obtain⟨rfl,rfl⟩:=P' (Oi h);refine key _ b1 b2 λi hi=>?_;obtain rfl:i=0:=(by omega);have b1:=Nb b1;simp only[chunk,Nat.zero_mul,List.drop_zero];rw[List.take_of_length_le (by omega)];have b2:dq l=true:=(by assumption);obtain⟨rfl,rfl⟩:=P' (Oi h);exact key _ (by assumption) b2 λi hi=>rfl;cases h
   cases h
  cases h
 cases h
theorem cH{t e:Nat}{ei:TI}(h:iu C t=some (e,ei)):∃i z,C.P.underlying t=some (.slice e)∧C.P.info? e=some i∧i.size=ei.sz∧i.bytes=ei.nb∧i.zero=some z∧eZ z.cells.toList ei.z=true:=by
 unfold iu at h;split at h;cases h;rename_i ti VL;obtain⟨i,d,z,hi,Xb,hs,hz,Wo,hk,-⟩:=(C.ty VL).ex;split at h;cases h;rename_i e' he;split at h
 ·rename_i ei' VG;obtain⟨rfl,rfl⟩:=P' (Oi h);obtain⟨i2,d2,z2,Zq,hdd2,Xt,ZC,Y1,XE,Vz⟩:=(C.ty VG).ex;have hd:d=.slice e':=by
   cases Wz:ti.k with
   | sl e2=>
    rw[Wz] at he hk;obtain rfl:=Oi he;cases d with
    | slice e3=>simp only[bn,beq_iff_eq] at hk;rw[hk]
    | _=>simp[bn] at hk
   | _=>rw[Wz] at he;cases he
  subst hd;exact⟨i2,z2,Xb,Zq,Xt,Vz,ZC,Y1⟩
 cases h
theorem lg{t len e:Nat}{ei:TI}(h:xp C t=some (len,e,ei)):∃i d,C.P.underlying t=some (.array len e)∧C.P.info? e=some i∧i.size=ei.sz∧C.P.underlying e=some d∧bn d ei.k=true:=by unfold xp at h;split at h;cases h;rename_i ti VL;obtain⟨i,d,z,hi,Xb,hs,hz,Wo,hk,-⟩:=(C.ty VL).ex;split at h;rename_i n e' WL;split at h;rename_i ei' VG;obtain⟨rfl,h2⟩:=P' (Oi h);obtain⟨rfl,rfl⟩:=P' h2;obtain⟨i2,d2,z2,Zq,hdd2,Xt,ZC,Y1,XE,Vz⟩:=(C.ty VG).ex;rw[WL] at hk;have hd:d=.array n e':=(by cases d<;>simp[bn] at hk;obtain⟨rfl,rfl⟩:=hk;rfl);subst hd;exact⟨i2,d2,Xb,Zq,Xt,hdd2,XE⟩;cases h;cases h
theorem fits{n:Nat}{i:TypeInfo}{nb:Nat}(h:gQ n nb)(e:i.bytes=nb):n<=maxLen∧n*i.bytes<=140737488355328:=by rw[e];exact h
theorem jQ{z:Value}{l:List SV}{n:Nat}(h:eZ z.cells.toList l=true):∀c∈(Builtin.zeroCells z.cells n).toList,c.oneCell'=true:=by intro c hc;simp only[Builtin.zeroCells,Array.toList_map,Array.toList_range,List.mem_map,List.mem_range] at hc;obtain⟨j,hj,rfl⟩:=hc;rcases Nat.eq_zero_or_pos z.cells.size with h0|h0;rw[h0] at hj;simp at hj;have hm:j%z.cells.size<z.cells.size:=Nat.mod_lt _ h0;rw[getElem!_pos z.cells _ hm];exact lA h _ (by simp)
theorem jR(z:Array Value)(n:Nat):(Builtin.zeroCells z n).toList.length=n*z.size:=by simp[Builtin.zeroCells]
theorem xq(hb:HB C ρ W)(hf:ρ.v nm=none){t ty e:TypeId}{i:TypeInfo}{z:Value}{ei:TI}(ht:C.P.underlying t=some (.slice e))(hi:C.P.info? e=some i)(hs:i.size=ei.sz)(hby:i.bytes=ei.nb)(hz:i.zero=some z)(Wo:eZ z.cells.toList ei.z=true)(Zn:ei.z.length=ei.sz)
  {ad ad':Option Addr} {m c:Nat} {k:Nat->List SV} {news:List Value} (hn:fG C.P W ei.sz m (.slice ad' m c) news) (h1:∀c∈news,c.oneCell'=true) (hk:Aw ρ ei.sz m k news) (Vv:gQ m ei.nb) :
  ∃y W',(Builtin.append_ #[t,t] ty #[.slice ad 0 0,.slice ad' m c]).run C.P W=.ok y W'∧fX C ρ W nm ⟨some (gQ m ei.nb),.g nm nm ei.sz 0 m,some (nm,.lst nm ei.sz m k e),true⟩ y W':=by
 have hlen:=hn.1;have hzc:z.cells.size=ei.sz:=by have:=aF (cM (ρ:=ρ) Wo);rw[<-Zn,<-this];simp
 rcases Nat.eq_zero_or_pos m with rfl|hm;obtain rfl:news=[]:=List.eq_nil_of_length_eq_zero (by simpa using hlen);refine⟨_,W,qo ht hi (by rw[hs];exact hn) (I' _),ρ.gU nm ⟨nm,ad,0,0⟩,fT (l:=⟨nm,ad,0,0⟩) hb hf (Gr.refl W) (λh=>Uw rfl h),λn sb h=>?_,?_⟩;obtain⟨rfl,rfl⟩:=P' (Oi h);exact⟨_,Names.aX,rfl,rfl,I' _,λh=>Uw rfl h⟩;exact⟨_,Names.aX,rfl,I' _,I' _,ad,rfl,λh=>Uw rfl h⟩;have XD:fG C.P W i.size 0 (.slice ad 0 0) []:=by
  cases ad with
  | none=>exact jE
  | some ad=>exact eG (by simp) λj u hj=>by simp at hj
 have ZY:=fits (i:=i) Vv hby;have ZE:=grownCap_ge W (0+m) 0 e;have U6:=iL (P:=C.P) (w:=W) (ty:=ty) (c:=c) ht hi hz XD (by rw[hs];exact hn) (by omega) (by simpa using ZY.1) (by simpa using ZY.2);have g:Gr W (W.drew.alloc (.cells ((#[]:Array Value)++news.toArray++Builtin.zeroCells z.cells (grownCap W (0+m) 0 e-(0+m))) e)):=(Gr.refl W).drew.alloc _;refine⟨_,_,U6,ρ.gU nm ⟨nm,some ⟨W.heap.size,0,none⟩,grownCap W (0+m) 0 e,m⟩,fT (l:=⟨nm,some ⟨W.heap.size,0,none⟩,grownCap W (0+m) 0 e,m⟩) hb hf g (λ_ b o h=>?_),λn sb h=>?_,?_⟩;injection h with h;injection h with h;subst h;exact⟨I' _,by simp⟩
 ·obtain⟨rfl,rfl⟩:=P' (Oi h);refine⟨_,Names.aX,rfl,rfl,(by show m<=grownCap W (0+m) 0 e;omega),λ_=>⟨W.heap.size,news++(Builtin.zeroCells z.cells (grownCap W (0+m) 0 e-(0+m))).toList,rfl,?_,?_,?_,?_,?_⟩⟩;have:Xi (W.drew.alloc (.cells ((#[]:Array Value)++news.toArray++Builtin.zeroCells z.cells (grownCap W (0+m) 0 e-(0+m))) e)) W.heap.size _ e:=Xi.new (w:=W.drew) rfl;have e2:(news++(Builtin.zeroCells z.cells (grownCap W (0+m) 0 e-(0+m))).toList).toArray=(#[]:Array Value)++news.toArray++Builtin.zeroCells z.cells (grownCap W (0+m) 0 e-(0+m)):=(by apply Array.ext';simp);rw[e2];exact this
  ·rw[List.length_append,hlen,jR,hzc,<-Nat.add_mul]
   congr 1
   dsimp only;omega
  intro c hc;rcases UJ.1 hc with hc|hc;exact h1 c hc;exact jQ Wo c hc;intro i' c Wc;have:=jI (hb.zok _ i' c Wc).1;omega;intro i' VZ;obtain⟨us,k1,k2,k3⟩:=hk i' VZ;exact⟨us,k1,k2,λq c hq=>by have:=k3 q c hq;rw[M' (J'.1 this).1];exact this⟩
 refine⟨_,Names.aX,rfl,by simp,(by show m<=grownCap W (0+m) 0 e;omega),some ⟨W.heap.size,0,none⟩,by simp,λ_=>⟨W.heap.size,rfl,by simp⟩⟩
theorem Ad{n i:Nat}{h k:Nat->List SV}{us:List Value}(hi:i<n)(ha:∀j,fE (k j) (h i))(hd:ao ρ (h i) us):ao ρ (K1 n h k i) us:=by
 have hb:Nat.ble n i=false:=by
  cases hb:Nat.ble n i with
  | false=>rfl
  | true=>have:=L' hb;omega
 unfold K1;rw[hb];exact cL _ _ _ (ha _) hd
theorem tR{n i:Nat}{h k:Nat->List SV}{us:List Value}(hi:n<=i)(hd:ao ρ (k (i-n)) us):ao ρ (K1 n h k i) us:=by have hb:Nat.ble n i=true:=Nat.ble_eq_true_of_le hi;unfold K1;rw[hb];exact fQ _ _ _ hd
theorem Rn(hH:VY C H ρ W)(hf:ρ.v nm=none){t ty:TypeId}{x y:SV}{u v:Value}{r:DR}(hD:K2 C H nm t x y=some r)(ho:r.Ob)(hx:den ρ x u)(hy:den ρ y v) :
  ∃w W',(Builtin.append_ #[t,t] ty #[u,v]).run C.P W=.ok w W'∧fX C ρ W nm r w W':=by
 unfold K2 at hD;split at hD;cases hD;rename_i e ei VG;obtain⟨i,z,ht,hi,hs,hby,hz,Wo⟩:=cH VG;split at hD
 ·rename_i m k b0 b1 hr;have Xl:0<ei.sz:=(by rcases Nat.eq_zero_or_pos ei.sz with h|h;rw[h] at b0;cases b0;exact h);have Zn:=Nb b1;have hzc:z.cells.size=ei.sz:=(by have:=aF (cM (ρ:=ρ) Wo);rw[<-Zn,<-this];simp);obtain⟨ad',c',news,rfl,hn,h1,hk⟩:=Im hH Xl hr hy;split at hD;obtain rfl:=Oi hD;obtain⟨ad,rfl⟩:=hx;exact xq hH.hb hf ht hi hs hby hz Wo Zn hn h1 hk ho;obtain rfl:=Oi hD;obtain rfl:u=_:=hx;exact xq hH.hb hf ht hi hs hby hz Wo Zn hn h1 hk ho
  ·rename_i l ep sz n;split at hD
   ·rename_i N h e' hl b2;have b2:=Nb b2;subst b2;split at hD
    ·rename_i b3;have b3:=Nb b3;subst b3;obtain rfl:=Oi hD;obtain⟨Vv,halike⟩:=ho;have ZY:=fits (i:=i) Vv hby;obtain⟨lv,p1,po,p2,p3,a',rfl,p5⟩:=hx;obtain⟨lv',q1,q2,q3,q4,q5⟩:=hH.blk l _ (rq hl);rw[p1] at q1;obtain rfl:=Oi q1;simp only[Nat.sub_zero,B',Nat.zero_mul] at p2 p5 ⊢;have hlen:=hn.1;by_cases hc:lv.cap=0
     ·-- no room at all: it was empty
      obtain rfl:n=0:=(by omega);rw[hc];obtain⟨w,W',k1,US,k2,k3,k4⟩:=xq (ty:=ty) (ad:=a') hH.hb hf ht hi hs hby hz Wo Zn hn h1 hk (by simpa using Vv);rcases Nat.eq_zero_or_pos m with rfl|hm;obtain rfl:news=[]:=List.eq_nil_of_length_eq_zero (by simpa using hlen);refine⟨_,W,qo ht hi (by rw[hs];exact hn) (I' _),ρ.gU nm ⟨l,a',0,0⟩,FO (l:=⟨l,a',0,0⟩) hH.hb hf (λh=>Uw rfl h),λn' VC h'=>?_,?_⟩;obtain⟨rfl,rfl⟩:=P' (Oi h');exact⟨_,Names.aX,rfl,rfl,I' _,λh=>Uw rfl h⟩;exact⟨_,Names.aX,rfl,I' _,I' _,a',rfl,λh=>Uw rfl h⟩;have XD:fG C.P W i.size 0 (.slice a' 0 0) []:=by
       cases a' with
       | none=>exact jE
       | some ad=>exact eG (by simp) λj u hj=>by simp at hj
      have ZE:=grownCap_ge W (0+m) 0 e;have U6:=iL (P:=C.P) (w:=W) (ty:=ty) (c:=c') ht hi hz XD (by rw[hs];exact hn) (by omega) (by simpa using ZY.1) (by simpa using ZY.2);have g:Gr W (W.drew.alloc (.cells ((#[]:Array Value)++news.toArray++Builtin.zeroCells z.cells (grownCap W (0+m) 0 e-(0+m))) e)):=(Gr.refl W).drew.alloc _;refine⟨_,_,U6,ρ.gU nm ⟨l,some ⟨W.heap.size,0,none⟩,grownCap W (0+m) 0 e,m⟩,fT (l:=⟨l,some ⟨W.heap.size,0,none⟩,grownCap W (0+m) 0 e,m⟩) hH.hb hf g (λ_ b o h=>?_),λn' VC h'=>?_,?_⟩;injection h with h;injection h with h;subst h;exact⟨I' _,by simp⟩
      ·obtain⟨rfl,rfl⟩:=P' (Oi h');refine⟨_,Names.aX,rfl,(by show m=0+m;omega),(by show 0+m<=grownCap W (0+m) 0 e;omega),λ_=>⟨W.heap.size,news++(Builtin.zeroCells z.cells (grownCap W (0+m) 0 e-(0+m))).toList,rfl,?_,?_,?_,?_,?_⟩⟩;have:Xi (W.drew.alloc (.cells ((#[]:Array Value)++news.toArray++Builtin.zeroCells z.cells (grownCap W (0+m) 0 e-(0+m))) e)) W.heap.size _ e:=Xi.new (w:=W.drew) rfl;have e2:(news++(Builtin.zeroCells z.cells (grownCap W (0+m) 0 e-(0+m))).toList).toArray=(#[]:Array Value)++news.toArray++Builtin.zeroCells z.cells (grownCap W (0+m) 0 e-(0+m)):=(by apply Array.ext';simp);rw[e2];exact this
       ·rw[List.length_append,hlen,jR,hzc,<-Nat.add_mul]
        congr 1
        dsimp only;omega
       intro c hc;rcases UJ.1 hc with hc|hc;exact h1 c hc;exact jQ Wo c hc;intro i' c Wc;have:=jI (hH.hb.zok _ i' c Wc).1;omega;intro i' VZ;obtain⟨us,k1,k2,k3⟩:=hk i' (by omega);exact⟨us,tR (Up _) (by rw[Nat.sub_zero];exact k1),k2,λq c hq=>by have:=k3 q c hq;rw[M' (J'.1 this).1];exact this⟩
      refine⟨_,Names.aX,rfl,by simp,(by show m<=grownCap W (0+m) 0 e;omega),some ⟨W.heap.size,0,none⟩,by simp,λ_=>⟨W.heap.size,rfl,by simp⟩⟩
     obtain⟨b,VN,rfl⟩:=p5 hc;obtain⟨b',cur,s1,s2,s3,s4,s5,s6⟩:=q5 hc;rw[VN] at s1;obtain rfl:b=b':=(by injection s1 with s1;injection s1);have Wh:bY ρ l b:=.inr (.inl ⟨ep,lv,0,p1,q2,hc,VN⟩);by_cases V9:n+m<=lv.cap
     ·-- in place
      have hmul:(n+m)*ei.sz<=lv.cap*ei.sz:=UG _ V9;rw[Nat.add_mul] at hmul;have U6:=og (P:=C.P) (w:=W) (ty:=ty) (c:=c') (sCap:=lv.cap) ht hi s2 (by rw[hs];exact hn) h1 V9 (by rw[hs,hlen];simp;omega);rw[hs,hlen,show cur.toArray.toList=cur by simp] at U6;refine⟨_,_,U6,ρ.gU nm ⟨l,some ⟨b,0,none⟩,lv.cap,n+m⟩,zG (l:=⟨l,some ⟨b,0,none⟩,lv.cap,n+m⟩) hH.hb hf Wh s5 rfl,λn' VC h'=>?_,?_⟩;obtain⟨rfl,rfl⟩:=P' (Oi h');have ZX:(cur.take (n*ei.sz)).length=n*ei.sz:=(by rw[List.length_take];omega);refine⟨_,Names.aX,rfl,rfl,V9,λ_=>⟨b,_,rfl,setRow_heap W b _ _ _ _ s2,?_,?_,s5,λi' VZ=>?_⟩⟩;simp only[List.length_append,List.length_take,List.length_drop,hlen];omega;intro c hc;rcases UJ.1 hc with hc|hc;rcases UJ.1 hc with hc|hc;exact s4 c (List.mem_of_mem_take hc);exact h1 c hc;exact s4 c (List.mem_of_mem_drop hc);rcases Nat.lt_or_ge i' n with U8|ZE;obtain⟨us,k1,k2,k3⟩:=s6 i' (by omega);refine⟨us,Ad U8 (halike i' U8) k1,k2,λq c hq=>?_⟩;have hql:q<ei.sz:=(by rw[<-k2];exact(J'.1 hq).1);have hmul2:i'*ei.sz+ei.sz<=n*ei.sz:=(by rw[<-Nat.succ_mul];exact UG _ U8);rw[List.append_assoc,M' (by omega),UF (by omega)];exact k3 q c hq;obtain⟨us,k1,k2,k3⟩:=hk (i'-n) (by omega);refine⟨us,tR ZE k1,k2,λq c hq=>?_⟩;have h3:=k3 q c hq;have h4:i'*ei.sz+q=n*ei.sz+((i'-n)*ei.sz+q):=(by rw[<-Nat.add_assoc,<-Nat.add_mul];congr 2;omega);rw[List.append_assoc,O' (by omega),ZX,M' (by have:=(J'.1 h3).1;omega)];rw[h4,Nat.add_sub_cancel_left];exact h3;exact⟨_,Names.aX,rfl,by simp,V9,some ⟨b,0,none⟩,by simp,λ_=>⟨b,rfl,by simp⟩⟩
     ·-- elsewhere
      have hlo:(cur.take (n*ei.sz)).length=n*ei.sz:=(by have:n*ei.sz<=lv.cap*ei.sz:=UG _ (by omega);rw[List.length_take];omega);have hold:fG C.P W i.size n (.slice (some ⟨b,0,none⟩) n lv.cap) (cur.take (n*ei.sz)):=eG (by rw[hs];exact hlo) λj u hj=>(by rw[bR,B',s2.cell];rw[List.getElem?_take] at hj;split at hj;simpa using hj;cases hj);have ZE:=grownCap_ge W (n+m) lv.cap e;have U6:=iL (P:=C.P) (w:=W) (ty:=ty) (c:=c') ht hi hz hold (by rw[hs];exact hn) (by omega) ZY.1 ZY.2;refine⟨_,_,U6,ρ.gU nm ⟨l,some ⟨W.heap.size,0,none⟩,grownCap W (n+m) lv.cap e,n+m⟩,fT (l:=⟨l,some ⟨W.heap.size,0,none⟩,grownCap W (n+m) lv.cap e,n+m⟩) hH.hb hf ((Gr.refl W).drew.alloc _) (λ_ b o h=>?_),λn' VC h'=>?_,?_⟩;injection h with h;injection h with h;subst h;exact⟨I' _,by simp⟩
      ·obtain⟨rfl,rfl⟩:=P' (Oi h');refine⟨_,Names.aX,rfl,rfl,ZE,λ_=>⟨W.heap.size,cur.take (n*ei.sz)++news++(Builtin.zeroCells z.cells (grownCap W (n+m) lv.cap e-(n+m))).toList,rfl,?_,?_,?_,?_,λi' VZ=>?_⟩⟩;have:Xi (W.drew.alloc (.cells ((cur.take (n*ei.sz)).toArray++news.toArray++Builtin.zeroCells z.cells (grownCap W (n+m) lv.cap e-(n+m))) e)) W.heap.size _ e:=Xi.new (w:=W.drew) rfl;have e2:(cur.take (n*ei.sz)++news++(Builtin.zeroCells z.cells (grownCap W (n+m) lv.cap e-(n+m))).toList).toArray=(cur.take (n*ei.sz)).toArray++news.toArray++Builtin.zeroCells z.cells (grownCap W (n+m) lv.cap e-(n+m)):=(by apply Array.ext';simp);rw[e2];exact this
       ·rw[List.length_append,List.length_append,hlo,hlen,jR,hzc,<-Nat.add_mul,<-Nat.add_mul]
        congr 1
        dsimp only;omega
       intro c hc;rcases UJ.1 hc with hc|hc;rcases UJ.1 hc with hc|hc;exact s4 c (List.mem_of_mem_take hc);exact h1 c hc;exact jQ Wo c hc;intro i' c Wc;have:=jI (hH.hb.zok _ i' c Wc).1;omega;rcases Nat.lt_or_ge i' n with U8|ZE;obtain⟨us,k1,k2,k3⟩:=s6 i' (by omega);refine⟨us,Ad U8 (halike i' U8) k1,k2,λq c hq=>?_⟩;have hql:q<ei.sz:=(by rw[<-k2];exact(J'.1 hq).1);have hmul2:i'*ei.sz+ei.sz<=n*ei.sz:=(by rw[<-Nat.succ_mul];exact UG _ U8);rw[List.append_assoc,M' (by omega),UF (by omega)];exact k3 q c hq;obtain⟨us,k1,k2,k3⟩:=hk (i'-n) (by omega);refine⟨us,tR ZE k1,k2,λq c hq=>?_⟩;have h3:=k3 q c hq;have h4:i'*ei.sz+q=n*ei.sz+((i'-n)*ei.sz+q):=(by rw[<-Nat.add_assoc,<-Nat.add_mul];congr 2;omega);rw[List.append_assoc,O' (by omega),hlo,M' (by have:=(J'.1 h3).1;omega)];rw[h4,Nat.add_sub_cancel_left];exact h3
      exact⟨_,Names.aX,rfl,by simp,ZE,some ⟨W.heap.size,0,none⟩,by simp,λ_=>⟨W.heap.size,rfl,by simp⟩⟩
    cases hD
   cases hD
  cases hD
 cases hD
theorem fF.keep{ρ US:Names}{W W':World}{q:LV}{sz:Nat}{f:Nat->List SV}{t:TypeId}(h:fF ρ W q sz f t)(hz:US.z=ρ.z)(hb:∀b,q.cap≠0->q.a=some ⟨b,0,none⟩->W'.heap[b]? = W.heap[b]?):fF US W' q sz f t:=by
 have hzo:US.zo=ρ.zo:=by unfold Names.zo;rw[hz]
 refine⟨h.1,λhc=>?_⟩;obtain⟨b,u,k1,k2,k3,k4,k5,k6⟩:=h.2 hc;exact⟨b,u,k1,(hb b hc k1).trans k2,k3,k4,by rw[hz];exact k5,by rw[hzo];exact k6⟩
theorem OC(hH:VY C H ρ W)(hf:ρ.v nm=none){t ty:TypeId}{x y:SV}{u v:Value}{r:DR}(hD:K0 C H nm t x y=some r)(ho:r.Ob)(hx:den ρ x u)(hy:den ρ y v) :
  ∃w W',(Builtin.append_ #[t,t] ty #[u,v]).run C.P W=.ok w W'∧fX C ρ W nm r w W':=by
 unfold K0 at hD;split at hD;cases hD;rename_i e ei VG;obtain⟨i,z,ht,hi,hs,hby,hz,Wo⟩:=cH VG;split at hD
 ·rename_i l ep sz n;split at hD
  ·rename_i N h p Vk g tk t' hl b2 b0 b1;split at hD
   ·rename_i n2 sz2 off cap2 b3;split at hD
    ·rename_i cs t2 hl2 b4;split at hD
     ·rename_i c hlc;split at hD
      ·rename_i b5;obtain rfl:=Oi hD;obtain⟨Vv,hnN⟩:=ho;have b2:=Nb b2;have b3:=Nb b3;have b4:=Nb b4;have b5:=Nb b5;subst b2 b3 b4 hnN;have Xl:0<ei.sz:=(by rcases Nat.eq_zero_or_pos ei.sz with h|h;rw[h] at b0;cases b0;exact h);have Zn:=Nb b1;have hzc:z.cells.size=ei.sz:=(by have:=aF (cM (ρ:=ρ) Wo);rw[<-Zn,<-this];simp);have ZY:=fits (i:=i) Vv hby
       -- Yk is appended
       obtain⟨b',e1,rfl⟩:=hy;obtain⟨b'',vs,k1,k2,k3,k4,k5⟩:=hH.blk n2 _ (kS hl2);rw[e1] at k1;obtain rfl:=Oi k1;have hlc:=dI hlc;obtain⟨news,hnews⟩:∃news,news=(vs.drop off).take ei.sz:=⟨_,rfl⟩
       have hdc:ao ρ c news:=(by rw[hlc,hnews];exact di _ (bX _ k2));have hlen:news.length=ei.sz:=(by rw[aF hdc];exact b5);have h1:∀c∈news,c.oneCell'=true:=λc hc=>k4 c (by rw[hnews] at hc;exact List.mem_of_mem_drop (List.mem_of_mem_take hc));have hn:fG C.P W ei.sz 1 (.slice (some ⟨b',off,none⟩) 1 cap2) news:=eG (by omega) λj u hj=>by rw[hnews,List.getElem?_take] at hj;split at hj;rw[List.getElem?_drop] at hj;rw[bR,k3.cell];simpa using hj;cases hj
       -- Yk is there
       obtain⟨lv,p1,po,p2,p3,a',rfl,p5⟩:=hx;obtain⟨lv',K⟩:=hH.blk l _ (Dj hl);have q1:=K.hv;rw[p1] at q1;obtain rfl:=Oi q1;have hNl:lv.N=n:=K.hN;simp only[Nat.sub_zero,B',Nat.zero_mul] at p2 p5 ⊢;have kidw:∀{US:Names} {W':World},US.k=ρ.k->US.z=ρ.z->(∀i q b,ρ.k l i=some q->q.cap≠0->q.a=some ⟨b,0,none⟩->W'.heap[b]? = W.heap[b]?)->∀i,i<n->∃q,US.k l i=some q∧q.N=(g i).1∧fF US W' q Vk (g i).2 tk:=(by intro US W' WL Wc hh i hi;obtain⟨q,q1,q2,q3⟩:=K.kid i hi;exact⟨q,by rw[WL];exact q1,q2,q3.keep Wc λb hc hb=>hh i q b q1 hc hb⟩);by_cases V9:n+1<=lv.cap;have hc:lv.cap≠0:=(by omega);obtain⟨b,VN,rfl⟩:=p5 hc;obtain⟨bb,cur,s1,s2,s3,s4,s5,s6,-,s8⟩:=K.row hc;rw[VN] at s1;obtain rfl:b=bb:=(by injection s1 with s1;injection s1);have Wh:bY ρ l b:=.inr (.inl ⟨ep,lv,0,p1,po,hc,VN⟩);have hmul:(n+1)*ei.sz<=lv.cap*ei.sz:=UG _ V9;rw[Nat.add_mul] at hmul;have U6:=og (P:=C.P) (w:=W) (ty:=ty) (c:=cap2) (sCap:=lv.cap) ht hi s2 (by rw[hs];exact hn) h1 V9 (by rw[hs,hlen];simp;omega);rw[hs,hlen,show cur.toArray.toList=cur by simp] at U6;refine⟨_,_,U6,ρ.gU nm ⟨l,some ⟨b,0,none⟩,lv.cap,n+1⟩,zG (l:=⟨l,some ⟨b,0,none⟩,lv.cap,n+1⟩) hH.hb hf Wh s5 rfl,λn' VC h'=>?_,?_⟩;obtain⟨rfl,rfl⟩:=P' (Oi h');have ZX:(cur.take (n*ei.sz)).length=n*ei.sz:=(by rw[List.length_take];omega);refine⟨_,Names.aX,rfl,rfl,V9,λ_=>⟨b,_,rfl,setRow_heap W b _ _ _ _ s2,?_,?_,s5,λi' VZ=>?_,λYi XF=>?_,s8⟩,kidw rfl rfl λi' q b2 h1 h2 h3=>eQ (s8 i' q b2 h1 h2 h3),K.no,K.ne⟩;simp only[List.length_append,List.length_take,List.length_drop,hlen];omega;intro c hc;rcases UJ.1 hc with hc|hc;rcases UJ.1 hc with hc|hc;exact s4 c (List.mem_of_mem_take hc);exact h1 c hc;exact s4 c (List.mem_of_mem_drop hc);obtain⟨q,us,k0,k1,k2,k3⟩:=s6 i' VZ;refine⟨q,us,k0,k1,k2,λq c hq=>?_⟩;have hql:q<ei.sz:=(by rw[<-k2];exact(J'.1 hq).1);have hmul2:i'*ei.sz+ei.sz<=n*ei.sz:=(by rw[<-Nat.succ_mul];exact UG _ VZ);rw[List.append_assoc,M' (by omega),UF (by omega)];exact k3 q c hq;obtain rfl:=Oi XF;refine⟨news,aJ (Names.jB hf) _ _ hdc,hlen,λq c hq=>?_⟩;rw[List.append_assoc,O' (by omega),ZX,M' (by have:=(J'.1 hq).1;omega),Nat.add_sub_cancel_left];exact hq;exact⟨_,Names.aX,rfl,by simp,V9,some ⟨b,0,none⟩,by simp,λ_=>⟨b,rfl,by simp⟩⟩;obtain⟨old,hold,VF,hrows⟩:∃old,fG C.P W ei.sz n (.slice a' n lv.cap) old∧(∀c∈old,c.oneCell'=true)∧∀i,i<n->∃q us,ρ.k l i=some q∧ao ρ.zo ((h i).set p (.v (.slice q.a q.N q.cap))) us∧us.length=ei.sz∧∀k c,us[k]? = some c->old[i*ei.sz+k]? = some c:=by
        by_cases hc:lv.cap=0
        ·obtain rfl:n=0:=(by omega);refine⟨[],?_,(λc hc=>by cases hc),λi hi=>Uw hi (by omega)⟩;cases a' with
         | none=>exact jE
         | some ad=>exact eG (by simp) λj u hj=>by simp at hj
        obtain⟨b,VN,rfl⟩:=p5 hc;obtain⟨bb,cur,s1,s2,s3,s4,s5,s6,-,s8⟩:=K.row hc;rw[VN] at s1;obtain rfl:b=bb:=(by injection s1 with s1;injection s1);have hlo:(cur.take (n*ei.sz)).length=n*ei.sz:=(by have:n*ei.sz<=lv.cap*ei.sz:=UG _ (by omega);rw[List.length_take];omega);refine⟨cur.take (n*ei.sz),eG hlo λj u hj=>?_,λc hc=>s4 c (List.mem_of_mem_take hc),λi' VZ=>?_⟩;rw[bR,B',s2.cell];rw[List.getElem?_take] at hj;split at hj;simpa using hj;cases hj;obtain⟨q,us,k0,k1,k2,k3⟩:=s6 i' VZ;refine⟨q,us,k0,k1,k2,λq c hq=>?_⟩;have hql:q<ei.sz:=(by rw[<-k2];exact(J'.1 hq).1);have hmul2:i'*ei.sz+ei.sz<=n*ei.sz:=(by rw[<-Nat.succ_mul];exact UG _ VZ);rw[UF (by omega)];exact k3 q c hq
       have hlo:=hold.1;have ZE:=grownCap_ge W (n+1) lv.cap e;have U6:=iL (P:=C.P) (w:=W) (ty:=ty) (c:=cap2) ht hi hz (by rw[hs];exact hold) (by rw[hs];exact hn) (by omega) ZY.1 ZY.2;have g2:Gr W (W.drew.alloc (.cells (old.toArray++news.toArray++Builtin.zeroCells z.cells (grownCap W (n+1) lv.cap e-(n+1))) e)):=(Gr.refl W).drew.alloc _;refine⟨_,_,U6,ρ.gU nm ⟨l,some ⟨W.heap.size,0,none⟩,grownCap W (n+1) lv.cap e,n+1⟩,fT (l:=⟨l,some ⟨W.heap.size,0,none⟩,grownCap W (n+1) lv.cap e,n+1⟩) hH.hb hf g2 (λ_ b o h=>?_),λn' VC h'=>?_,?_⟩;injection h with h;injection h with h;subst h;exact⟨I' _,by simp⟩
       ·obtain⟨rfl,rfl⟩:=P' (Oi h');have kb:∀i q b,ρ.k l i=some q->q.cap≠0->q.a=some ⟨b,0,none⟩->b<W.heap.size:=λi q b k1 k2 k3=>(hH.hb.low l b (.inr (.inr ⟨i,q,0,k1,k2,k3⟩))).2;refine⟨_,Names.aX,rfl,rfl,ZE,λ_=>⟨W.heap.size,old++news++(Builtin.zeroCells z.cells (grownCap W (n+1) lv.cap e-(n+1))).toList,rfl,?_,?_,?_,?_,λi' VZ=>?_,λYi XF=>?_,λi' q b2 h1 h2 h3=>?_⟩,kidw rfl rfl λi' q b2 h1 h2 h3=>Below.block g2 b2 (kb i' q b2 h1 h2 h3),K.no,K.ne⟩;have:Xi (W.drew.alloc (.cells (old.toArray++news.toArray++Builtin.zeroCells z.cells (grownCap W (n+1) lv.cap e-(n+1))) e)) W.heap.size _ e:=Xi.new (w:=W.drew) rfl;have e2:(old++news++(Builtin.zeroCells z.cells (grownCap W (n+1) lv.cap e-(n+1))).toList).toArray=old.toArray++news.toArray++Builtin.zeroCells z.cells (grownCap W (n+1) lv.cap e-(n+1)):=(by apply Array.ext';simp);rw[e2];exact this
        ·have e3:ei.sz=1*ei.sz:=(by omega);rw[List.length_append,List.length_append,hlo,hlen,jR,hzc]
         conv=>lhs;lhs;rhs;rw[e3]
         rw[<-Nat.add_mul,<-Nat.add_mul]
         congr 1
         dsimp only;omega
        intro c hc;rcases UJ.1 hc with hc|hc;rcases UJ.1 hc with hc|hc;exact VF c hc;exact h1 c hc;exact jQ Wo c hc;intro i' c Wc;have:=jI (hH.hb.zok _ i' c Wc).1;omega;obtain⟨q,us,k0,k1,k2,k3⟩:=hrows i' VZ;refine⟨q,us,k0,k1,k2,λq c hq=>?_⟩;have:=k3 q c hq;rw[List.append_assoc,M' (J'.1 this).1];exact this;obtain rfl:=Oi XF;refine⟨news,aJ (Names.jB hf) _ _ hdc,hlen,λq c hq=>?_⟩;rw[List.append_assoc,O' (by omega),hlo,M' (by have:=(J'.1 hq).1;omega),Nat.add_sub_cancel_left];exact hq;have:=kb i' q b2 h1 h2 h3;omega
       exact⟨_,Names.aX,rfl,by simp,ZE,some ⟨W.heap.size,0,none⟩,by simp,λ_=>⟨W.heap.size,rfl,by simp⟩⟩
      cases hD
     cases hD
    cases hD
   cases hD
  cases hD
 cases hD
end
end Go.Proofs.YtgigkennhdolpaaGreatDoor
