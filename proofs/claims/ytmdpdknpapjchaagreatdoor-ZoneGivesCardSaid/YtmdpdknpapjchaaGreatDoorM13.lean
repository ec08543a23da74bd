/- A symbolic executor with lists. -/
import Derived.Test.YtmdpdknpapjchaaGreatDoorM12
set_option linter.all false
namespace Go.Proofs.YtmdpdknpapjchaaGreatDoor
open Go.RowKit
variable {r:DR}{ρ:Names}{b e m n o sz:Nat}{k:Nat->List SV}{x y:SV}{ei:TI}{t ty:TypeId}{v:Value}{W':World}
section
variable {PP:Program}{C:Cx PP}{op:OpF}{a:Act}{W:World}{H:aU}{nm:Nat}
def zF(W:World)(b o n:Nat):List Value:=(List.range n).map λj=>(W.cell? ⟨b,o+j,none⟩).getD undef
theorem tw{j:Nat}(hj:j<n)(h:W.cell? ⟨b,o+j,none⟩=some v):(zF W b o n)[j]? = some v:=by simp[zF,List.getElem?_range hj,h]
def BX(ρ:Names)(sz m:Nat)(k:Nat->List SV)(news:List Value):Prop:=∀i,i<m->∃us,au ρ.zo (k i) us∧us.length=sz∧∀(q:Nat) (c:Value),us[q]? = some c->news[i*sz+q]? = some c
theorem xG{P:Program}(Y8:0<sz)(h:∀i,i<m->∃us,au ρ.zo (k i) us∧us.length=sz∧∀(q:Nat) (c:Value),us[q]? = some c->W.cell? ⟨b,o+i*sz+q,none⟩=some c∧c.oneCell'=true)(len cap:Nat) :
  eL P W sz m (.slice (some ⟨b,o,none⟩) len cap) (zF W b o (m*sz))∧(∀c∈zF W b o (m*sz),c.oneCell'=true)∧BX ρ sz m k (zF W b o (m*sz)):=by
 have X8:∀j,j<m*sz->∃c,W.cell? ⟨b,o+j,none⟩=some c∧c.oneCell'=true:=by intro j hj;have h1:j/sz<m:=Nat.div_lt_of_lt_mul (by rw[Nat.mul_comm];exact hj);obtain⟨us,-,k2,k3⟩:=h (j/sz) h1;have h2:j%sz<us.length:=(by rw[k2];exact Nat.mod_lt _ Y8);have h3:=k3 (j%sz) us[j%sz] (by simp[h2]);have h4:o+j/sz*sz+j%sz=o+j:=(by have:=Nat.div_add_mod' j sz;omega);rw[h4] at h3;exact⟨_,h3⟩
 refine⟨eF (by simp[zF]) λj u hj=>?_,λc hc=>?_,λi hi=>?_⟩;have X0:j<m*sz:=(by have:=(F3.1 hj).1;simpa[zF] using this);obtain⟨c,h1,-⟩:=X8 j X0;rw[tw X0 h1] at hj;rw[bO,<-Oi hj];exact h1;obtain⟨j,hj⟩:=List.mem_iff_getElem?.1 hc;have X0:j<m*sz:=(by have:=(F3.1 hj).1;simpa[zF] using this);obtain⟨c',h1,h2⟩:=X8 j X0;rw[tw X0 h1] at hj;rw[<-Oi hj];exact h2;obtain⟨us,k1,k2,k3⟩:=h i hi;refine⟨us,k1,k2,λq c hq=>?_⟩;have hql:q<sz:=by rw[<-k2];exact(F3.1 hq).1
 have X0:i*sz+q<m*sz:=by have:i*sz+sz<=m*sz:=(by rw[<-Nat.succ_mul];exact Xo _ hi);omega
 exact tw X0 (by rw[<-Nat.add_assoc];exact(k3 q c hq).1)
theorem ju(hH:YH C H ρ W)(Y8:0<sz)(h:qZ H sz y=some (m,k))(hd:den ρ y v) :
  ∃ad c news,v=.slice ad m c∧eL C.P W sz m v news∧(∀c∈news,c.oneCell'=true)∧BX ρ sz m k news:=by
 have hnil:∀(ad:Option Addr) (c:Nat),eL C.P W sz 0 (.slice ad 0 c) []:=λad c=>by
  cases ad with
  | none=>exact jP
  | some ad=>exact eF (by simp) λj u hj=>by simp at hj
 have hempty:∀(ad:Option Addr) (c:Nat) (k:Nat->List SV),∃ad' c' news,Value.slice ad 0 c=.slice ad' 0 c'∧eL C.P W sz 0 (.slice ad 0 c) news∧(∀c∈news,c.oneCell'=true)∧BX ρ sz 0 k news:=
  λad c k=>⟨ad,c,[],rfl,hnil ad c,(λc hc=>by cases hc),λi hi=>P' hi (by omega)⟩
 unfold qZ at h;split at h;obtain⟨rfl,rfl⟩:=F7 (Oi h);obtain⟨ad,rfl⟩:=hd;exact hempty ad 0 _;obtain⟨rfl,rfl⟩:=F7 (Oi h);obtain rfl:v=_:=hd;exact hempty none 0 _;split at h;rename_i Yb n hh _ hb;have hb:=Nb hb;subst hb;obtain⟨rfl,rfl⟩:=F7 (Oi h);obtain⟨ad,cap,rfl,e2,e3⟩:=hd;rcases Nat.eq_zero_or_pos n with rfl|hn;exact hempty ad cap _;obtain⟨b,o,u,rfl,-⟩:=e3 0 hn;have key:=xG (P:=C.P) (ρ:=ρ) (W:=W) (b:=b) (o:=o) (m:=n) (k:=hh) Y8 (λi hi=>by obtain⟨b',o',u',k1,k2,k3,k4⟩:=e3 i hi;injection k1 with k1;injection k1 with k1 k1';subst k1 k1';exact⟨u',k2,k3,λq c hc=>hH.hb.zok _ _ _ (k4 q c hc)⟩) n cap;exact⟨_,_,_,rfl,key⟩;cases h;split at h;rename_i l e Yb off n _ _ N hh t hl hb;have hb:=Nb hb;subst hb;obtain⟨rfl,rfl⟩:=F7 (Oi h);obtain⟨ad,cap,rfl,e2,e3⟩:=m6 hH (lD hl) hd;rcases Nat.eq_zero_or_pos n with rfl|hn;exact hempty ad cap _;obtain⟨b,o,u,rfl,-⟩:=e3 0 hn;have key:=xG (P:=C.P) (ρ:=ρ) (W:=W) (b:=b) (o:=o) (m:=n) (k:=λi=>hh (off+i)) Y8 (λi hi=>by obtain⟨b',o',u',k1,k2,k3,k4⟩:=e3 i hi;injection k1 with k1;injection k1 with k1 k1';subst k1 k1';exact⟨u',k2,k3,k4.1⟩) n cap;exact⟨_,_,_,rfl,key⟩;cases h;split at h;rename_i l i Yb off n _ _ e esz N hh p g tk t hl hb;have hb:=Nb hb;subst hb;obtain⟨rfl,rfl⟩:=F7 (Oi h);obtain⟨ad,cap,rfl,e2,e3⟩:=qi hH (pe hl) hd;rcases Nat.eq_zero_or_pos n with rfl|hn;exact hempty ad cap _;obtain⟨b,o,u,rfl,-⟩:=e3 0 hn;have key:=xG (P:=C.P) (ρ:=ρ) (W:=W) (b:=b) (o:=o) (m:=n) (k:=λj=>(g i).2 (off+j)) Y8 (λi hi=>by obtain⟨b',o',u',k1,k2,k3,k4⟩:=e3 i hi;injection k1 with k1;injection k1 with k1 k1';subst k1 k1';exact⟨u',k2,k3,k4.1⟩) n cap;exact⟨_,_,_,rfl,key⟩;cases h
 ·split at h
  ·rename_i n Yb off len cap _ _ cs t hl hb;have hb:=Nb hb;subst hb;split at h
   ·rename_i l hlaid;have hl2:=dG hlaid;obtain⟨b,e1,rfl⟩:=hd;obtain⟨b',vs,k1,k2,k3,k4,k5⟩:=hH.blk n _ (lE hl);rw[e1] at k1;obtain rfl:=Oi k1;have key:∀(k:Nat->List SV),Nat.beq l.length (len*sz)=true->dB l=true->(∀i,i<len->k i=chunk l sz i)->
      ∃ad c news,Value.slice (some ⟨b,off,none⟩) len cap=.slice ad len c∧eL C.P W sz len (.slice (some ⟨b,off,none⟩) len cap) news∧(∀c∈news,c.oneCell'=true)∧BX ρ sz len k news:=by
     intro k b1 b2 hk;have b1:=Nb b1;have hdl:au ρ.zo l ((vs.drop off).take (len*sz)):=cJ _ _ b2 (by rw[hl2];exact dt _ (bS _ k2));have hlen:=aB hdl;rw[b1] at hlen;refine⟨_,_,_,rfl,xG (P:=C.P) (ρ:=ρ) (W:=W) (b:=b) (o:=off) (m:=len) (k:=k) Y8 (λi hi=>?_) len cap⟩;rw[hk i hi];refine⟨_,ji sz i hdl,?_,λq c hq=>?_⟩;have:i*sz+sz<=len*sz:=(by rw[<-Nat.succ_mul];exact Xo _ hi);rw[List.length_take,List.length_drop,hlen];omega;rw[List.getElem?_take] at hq;split at hq;rw[List.getElem?_drop,List.getElem?_take] at hq;split at hq;rw[List.getElem?_drop] at hq;refine⟨?_,k4 c (Xu hq)⟩;rw[k3.cell];simpa[Nat.add_assoc] using hq;cases hq;cases hq
    split at h;have b2:dB l=true:=(by assumption);have b1:Nat.beq l.length (1*sz)=true:=(by assumption);obtain⟨rfl,rfl⟩:=F7 (Oi h);refine key _ b1 b2 λi hi=>?_;obtain rfl:i=0:=(by omega);have b1:=Nb b1;simp only[chunk,Nat.zero_mul,List.drop_zero];rw[List.take_of_length_le (by omega)];have b2:dB l=true:=(by assumption);obtain⟨rfl,rfl⟩:=F7 (Oi h);exact key _ (by assumption) b2 λi hi=>rfl;cases h
   cases h
  cases h
 cases h
theorem bV{t:Nat}(h:fe C t=some (e,ei)):∃i z,C.P.underlying t=some (.slice e)∧C.P.info? e=some i∧i.size=ei.sz∧i.bytes=ei.nb∧i.zero=some z∧eY z.cells.toList ei.z=true:=by
 unfold fe at h;split at h;cases h;rename_i ti YD;obtain⟨i,d,z,hi,ZI,hs,hz,Y2,hk,-⟩:=(C.ty YD).ex;split at h;cases h;rename_i e' he;split at h
 ·rename_i ei' Yt;obtain⟨rfl,rfl⟩:=F7 (Oi h);obtain⟨i2,d2,z2,hi2,hdd2,YP,hz2,hzz2,hk2,Yi⟩:=(C.ty Yt).ex;have hd:d=.slice e':=by
   cases Y7:ti.k with
   | sl e2=>
    rw[Y7] at he hk;obtain rfl:=Oi he;cases d with
    | slice e3=>simp only[aX,beq_iff_eq] at hk;rw[hk]
    | _=>simp[aX] at hk
   | _=>rw[Y7] at he;cases he
  subst hd;exact⟨i2,z2,ZI,hi2,YP,Yi,hz2,hzz2⟩
 cases h
theorem jU{t len:Nat}(h:vU C t=some (len,e,ei)):∃i d,C.P.underlying t=some (.array len e)∧C.P.info? e=some i∧i.size=ei.sz∧C.P.underlying e=some d∧aX d ei.k=true:=by unfold vU at h;split at h;cases h;rename_i ti YD;obtain⟨i,d,z,hi,ZI,hs,hz,Y2,hk,-⟩:=(C.ty YD).ex;split at h;rename_i n e' ZH;split at h;rename_i ei' Yt;obtain⟨rfl,h2⟩:=F7 (Oi h);obtain⟨rfl,rfl⟩:=F7 h2;obtain⟨i2,d2,z2,hi2,hdd2,YP,hz2,hzz2,hk2,Yi⟩:=(C.ty Yt).ex;rw[ZH] at hk;have hd:d=.array n e':=(by cases d<;>simp[aX] at hk;obtain⟨rfl,rfl⟩:=hk;rfl);subst hd;exact⟨i2,d2,ZI,hi2,YP,hdd2,hk2⟩;cases h;cases h
theorem fits{i:TypeInfo}{nb:Nat}(h:gQ n nb)(e:i.bytes=nb):n<=maxLen∧n*i.bytes<=140737488355328:=by rw[e];exact h
theorem gX{z:Value}{l:List SV}(h:eY z.cells.toList l=true):∀c∈(Builtin.zeroCells z.cells n).toList,c.oneCell'=true:=by intro c hc;simp only[Builtin.zeroCells,Array.toList_map,Array.toList_range,List.mem_map,List.mem_range] at hc;obtain⟨j,hj,rfl⟩:=hc;rcases Nat.eq_zero_or_pos z.cells.size with h0|h0;rw[h0] at hj;simp at hj;have hm:j%z.cells.size<z.cells.size:=Nat.mod_lt _ h0;rw[getElem!_pos z.cells _ hm];exact l7 h _ (by simp)
theorem ga(z:Array Value)(n:Nat):(Builtin.zeroCells z n).toList.length=n*z.size:=by simp[Builtin.zeroCells]
theorem yS(hb:HB C ρ W)(hf:ρ.v nm=none){e:TypeId}{i:TypeInfo}{z:Value}(ht:C.P.underlying t=some (.slice e))(hi:C.P.info? e=some i)(hs:i.size=ei.sz)(hby:i.bytes=ei.nb)(hz:i.zero=some z)(Y2:eY z.cells.toList ei.z=true)(hzl:ei.z.length=ei.sz){ad ad':Option Addr}{c:Nat}{news:List Value}(hn:eL C.P W ei.sz m (.slice ad' m c) news)(h1:∀c∈news,c.oneCell'=true)(hk:BX ρ ei.sz m k news)(Yo:gQ m ei.nb) :
  ∃y W',(Builtin.append_ #[t,t] ty #[.slice ad 0 0,.slice ad' m c]).run C.P W=.ok y W'∧eB C ρ W nm ⟨some (gQ m ei.nb),.g nm nm ei.sz 0 m,some (nm,.lst nm ei.sz m k e),true⟩ y W':=by
 have hlen:=hn.1;have hzc:z.cells.size=ei.sz:=by have:=aB (cg (ρ:=ρ) Y2);rw[<-hzl,<-this];simp
 rcases Nat.eq_zero_or_pos m with rfl|hm;obtain rfl:news=[]:=List.eq_nil_of_length_eq_zero (by simpa using hlen);refine⟨_,W,mn ht hi (by rw[hs];exact hn) (F2 _),ρ.fZ nm ⟨nm,ad,0,0⟩,eR (l:=⟨nm,ad,0,0⟩) hb hf (Gr.refl W) (λh=>P' rfl h),λn sb h=>?_,?_⟩;obtain⟨rfl,rfl⟩:=F7 (Oi h);exact⟨_,Names.aQ,rfl,rfl,F2 _,λh=>P' rfl h⟩;exact⟨_,Names.aQ,rfl,F2 _,F2 _,ad,rfl,λh=>P' rfl h⟩;have hnil:eL C.P W i.size 0 (.slice ad 0 0) []:=by
  cases ad with
  | none=>exact jP
  | some ad=>exact eF (by simp) λj u hj=>by simp at hj
 have hf2:=fits (i:=i) Yo hby;have hge:=grownCap_ge W (0+m) 0 e;have XV:=iR (P:=C.P) (w:=W) (ty:=ty) (c:=c) ht hi hz hnil (by rw[hs];exact hn) (by omega) (by simpa using hf2.1) (by simpa using hf2.2);have g:Gr W (W.drew.alloc (.cells ((#[]:Array Value)++news.toArray++Builtin.zeroCells z.cells (grownCap W (0+m) 0 e-(0+m))) e)):=(Gr.refl W).drew.alloc _;refine⟨_,_,XV,ρ.fZ nm ⟨nm,some ⟨W.heap.size,0,none⟩,grownCap W (0+m) 0 e,m⟩,eR (l:=⟨nm,some ⟨W.heap.size,0,none⟩,grownCap W (0+m) 0 e,m⟩) hb hf g (λ_ b o h=>?_),λn sb h=>?_,?_⟩;injection h with h;injection h with h;subst h;exact⟨F2 _,by simp⟩
 ·obtain⟨rfl,rfl⟩:=F7 (Oi h);refine⟨_,Names.aQ,rfl,rfl,(by show m<=grownCap W (0+m) 0 e;omega),λ_=>⟨W.heap.size,news++(Builtin.zeroCells z.cells (grownCap W (0+m) 0 e-(0+m))).toList,rfl,?_,?_,?_,?_,?_⟩⟩;have:Zq (W.drew.alloc (.cells ((#[]:Array Value)++news.toArray++Builtin.zeroCells z.cells (grownCap W (0+m) 0 e-(0+m))) e)) W.heap.size _ e:=Zq.new (w:=W.drew) rfl;have e2:(news++(Builtin.zeroCells z.cells (grownCap W (0+m) 0 e-(0+m))).toList).toArray=(#[]:Array Value)++news.toArray++Builtin.zeroCells z.cells (grownCap W (0+m) 0 e-(0+m)):=(by apply Array.ext';simp);rw[e2];exact this
  ·rw[List.length_append,hlen,ga,hzc,<-Nat.add_mul]
   congr 1
   dsimp only;omega
  intro c hc;rcases Xr.1 hc with hc|hc;exact h1 c hc;exact gX Y2 c hc;intro i' c Y4;have:=fU (hb.zok _ i' c Y4).1;omega;intro i' YT;obtain⟨us,k1,k2,k3⟩:=hk i' YT;exact⟨us,k1,k2,λq c hq=>by have:=k3 q c hq;rw[F5 (F3.1 this).1];exact this⟩
 refine⟨_,Names.aQ,rfl,by simp,(by show m<=grownCap W (0+m) 0 e;omega),some ⟨W.heap.size,0,none⟩,by simp,λ_=>⟨W.heap.size,rfl,by simp⟩⟩
theorem BF{i:Nat}{h:Nat->List SV}{us:List Value}(hi:i<n)(ha:∀j,dD (k j) (h i))(hd:au ρ (h i) us):au ρ (MC n h k i) us:=by
 have hb:Nat.ble n i=false:=by
  cases hb:Nat.ble n i with
  | false=>rfl
  | true=>have:=F4 hb;omega
 unfold MC;rw[hb];exact bZ _ _ _ (ha _) hd
theorem vj{i:Nat}{h:Nat->List SV}{us:List Value}(hi:n<=i)(hd:au ρ (k (i-n)) us):au ρ (MC n h k i) us:=by have hb:Nat.ble n i=true:=Nat.ble_eq_true_of_le hi;unfold MC;rw[hb];exact eQ _ _ _ hd
theorem T1(hH:YH C H ρ W)(hf:ρ.v nm=none){u:Value}(hD:MD C H nm t x y=some r)(ho:r.Ob)(hx:den ρ x u)(hy:den ρ y v) :
  ∃w W',(Builtin.append_ #[t,t] ty #[u,v]).run C.P W=.ok w W'∧eB C ρ W nm r w W':=by
 unfold MD at hD;split at hD;cases hD;rename_i e ei Yt;obtain⟨i,z,ht,hi,hs,hby,hz,Y2⟩:=bV Yt;split at hD
 ·rename_i m k b0 b1 hr;have Y8:0<ei.sz:=(by rcases Nat.eq_zero_or_pos ei.sz with h|h;rw[h] at b0;cases b0;exact h);have hzl:=Nb b1;have hzc:z.cells.size=ei.sz:=(by have:=aB (cg (ρ:=ρ) Y2);rw[<-hzl,<-this];simp);obtain⟨ad',c',news,rfl,hn,h1,hk⟩:=ju hH Y8 hr hy;split at hD;obtain rfl:=Oi hD;obtain⟨ad,rfl⟩:=hx;exact yS hH.hb hf ht hi hs hby hz Y2 hzl hn h1 hk ho;obtain rfl:=Oi hD;obtain rfl:u=_:=hx;exact yS hH.hb hf ht hi hs hby hz Y2 hzl hn h1 hk ho
  ·rename_i l ep sz n;split at hD
   ·rename_i N h e' hl b2;have b2:=Nb b2;subst b2;split at hD
    ·rename_i b3;have b3:=Nb b3;subst b3;obtain rfl:=Oi hD;obtain⟨Yo,Zo⟩:=ho;have hf2:=fits (i:=i) Yo hby;obtain⟨lv,p1,po,p2,p3,a',rfl,p5⟩:=hx;obtain⟨lv',q1,q2,q3,q4,q5⟩:=hH.blk l _ (lD hl);rw[p1] at q1;obtain rfl:=Oi q1;simp only[Nat.sub_zero,B',Nat.zero_mul] at p2 p5 ⊢;have hlen:=hn.1;by_cases hc:lv.cap=0
     ·-- no room at all: it was empty
      obtain rfl:n=0:=(by omega);rw[hc];obtain⟨w,W',k1,XM,k2,k3,k4⟩:=yS (ty:=ty) (ad:=a') hH.hb hf ht hi hs hby hz Y2 hzl hn h1 hk (by simpa using Yo);rcases Nat.eq_zero_or_pos m with rfl|hm;obtain rfl:news=[]:=List.eq_nil_of_length_eq_zero (by simpa using hlen);refine⟨_,W,mn ht hi (by rw[hs];exact hn) (F2 _),ρ.fZ nm ⟨l,a',0,0⟩,Hu (l:=⟨l,a',0,0⟩) hH.hb hf (λh=>P' rfl h),λn' Yu h'=>?_,?_⟩;obtain⟨rfl,rfl⟩:=F7 (Oi h');exact⟨_,Names.aQ,rfl,rfl,F2 _,λh=>P' rfl h⟩;exact⟨_,Names.aQ,rfl,F2 _,F2 _,a',rfl,λh=>P' rfl h⟩;have hnil:eL C.P W i.size 0 (.slice a' 0 0) []:=by
       cases a' with
       | none=>exact jP
       | some ad=>exact eF (by simp) λj u hj=>by simp at hj
      have hge:=grownCap_ge W (0+m) 0 e;have XV:=iR (P:=C.P) (w:=W) (ty:=ty) (c:=c') ht hi hz hnil (by rw[hs];exact hn) (by omega) (by simpa using hf2.1) (by simpa using hf2.2);have g:Gr W (W.drew.alloc (.cells ((#[]:Array Value)++news.toArray++Builtin.zeroCells z.cells (grownCap W (0+m) 0 e-(0+m))) e)):=(Gr.refl W).drew.alloc _;refine⟨_,_,XV,ρ.fZ nm ⟨l,some ⟨W.heap.size,0,none⟩,grownCap W (0+m) 0 e,m⟩,eR (l:=⟨l,some ⟨W.heap.size,0,none⟩,grownCap W (0+m) 0 e,m⟩) hH.hb hf g (λ_ b o h=>?_),λn' Yu h'=>?_,?_⟩;injection h with h;injection h with h;subst h;exact⟨F2 _,by simp⟩
      ·obtain⟨rfl,rfl⟩:=F7 (Oi h');refine⟨_,Names.aQ,rfl,(by show m=0+m;omega),(by show 0+m<=grownCap W (0+m) 0 e;omega),λ_=>⟨W.heap.size,news++(Builtin.zeroCells z.cells (grownCap W (0+m) 0 e-(0+m))).toList,rfl,?_,?_,?_,?_,?_⟩⟩;have:Zq (W.drew.alloc (.cells ((#[]:Array Value)++news.toArray++Builtin.zeroCells z.cells (grownCap W (0+m) 0 e-(0+m))) e)) W.heap.size _ e:=Zq.new (w:=W.drew) rfl;have e2:(news++(Builtin.zeroCells z.cells (grownCap W (0+m) 0 e-(0+m))).toList).toArray=(#[]:Array Value)++news.toArray++Builtin.zeroCells z.cells (grownCap W (0+m) 0 e-(0+m)):=(by apply Array.ext';simp);rw[e2];exact this
       ·rw[List.length_append,hlen,ga,hzc,<-Nat.add_mul]
        congr 1
        dsimp only;omega
       intro c hc;rcases Xr.1 hc with hc|hc;exact h1 c hc;exact gX Y2 c hc;intro i' c Y4;have:=fU (hH.hb.zok _ i' c Y4).1;omega;intro i' YT;obtain⟨us,k1,k2,k3⟩:=hk i' (by omega);exact⟨us,vj (F9 _) (by rw[Nat.sub_zero];exact k1),k2,λq c hq=>by have:=k3 q c hq;rw[F5 (F3.1 this).1];exact this⟩
      refine⟨_,Names.aQ,rfl,by simp,(by show m<=grownCap W (0+m) 0 e;omega),some ⟨W.heap.size,0,none⟩,by simp,λ_=>⟨W.heap.size,rfl,by simp⟩⟩
     obtain⟨b,YB,rfl⟩:=p5 hc;obtain⟨b',cur,s1,s2,s3,s4,s5,s6⟩:=q5 hc;rw[YB] at s1;obtain rfl:b=b':=(by injection s1 with s1;injection s1);have YZ:bM ρ l b:=.inr (.inl ⟨ep,lv,0,p1,q2,hc,YB⟩);by_cases YX:n+m<=lv.cap
     ·-- in place
      have hmul:(n+m)*ei.sz<=lv.cap*ei.sz:=Xo _ YX;rw[Nat.add_mul] at hmul;have XV:=lq (P:=C.P) (w:=W) (ty:=ty) (c:=c') (sCap:=lv.cap) ht hi s2 (by rw[hs];exact hn) h1 YX (by rw[hs,hlen];simp;omega);rw[hs,hlen,show cur.toArray.toList=cur by simp] at XV;refine⟨_,_,XV,ρ.fZ nm ⟨l,some ⟨b,0,none⟩,lv.cap,n+m⟩,Bb (l:=⟨l,some ⟨b,0,none⟩,lv.cap,n+m⟩) hH.hb hf YZ s5 rfl,λn' Yu h'=>?_,?_⟩;obtain⟨rfl,rfl⟩:=F7 (Oi h');have hl1:(cur.take (n*ei.sz)).length=n*ei.sz:=(by rw[List.length_take];omega);refine⟨_,Names.aQ,rfl,rfl,YX,λ_=>⟨b,_,rfl,setRow_heap W b _ _ _ _ s2,?_,?_,s5,λi' YT=>?_⟩⟩;simp only[List.length_append,List.length_take,List.length_drop,hlen];omega;intro c hc;rcases Xr.1 hc with hc|hc;rcases Xr.1 hc with hc|hc;exact s4 c (List.mem_of_mem_take hc);exact h1 c hc;exact s4 c (List.mem_of_mem_drop hc);rcases Nat.lt_or_ge i' n with X0|hge;obtain⟨us,k1,k2,k3⟩:=s6 i' (by omega);refine⟨us,BF X0 (Zo i' X0) k1,k2,λq c hq=>?_⟩;have hql:q<ei.sz:=(by rw[<-k2];exact(F3.1 hq).1);have ZR:i'*ei.sz+ei.sz<=n*ei.sz:=(by rw[<-Nat.succ_mul];exact Xo _ X0);rw[List.append_assoc,F5 (by omega),Xn (by omega)];exact k3 q c hq;obtain⟨us,k1,k2,k3⟩:=hk (i'-n) (by omega);refine⟨us,vj hge k1,k2,λq c hq=>?_⟩;have h3:=k3 q c hq;have h4:i'*ei.sz+q=n*ei.sz+((i'-n)*ei.sz+q):=(by rw[<-Nat.add_assoc,<-Nat.add_mul];congr 2;omega);rw[List.append_assoc,F6 (by omega),hl1,F5 (by have:=(F3.1 h3).1;omega)];rw[h4,Nat.add_sub_cancel_left];exact h3;exact⟨_,Names.aQ,rfl,by simp,YX,some ⟨b,0,none⟩,by simp,λ_=>⟨b,rfl,by simp⟩⟩
     ·-- elsewhere
      have hlo:(cur.take (n*ei.sz)).length=n*ei.sz:=(by have:n*ei.sz<=lv.cap*ei.sz:=Xo _ (by omega);rw[List.length_take];omega);have hold:eL C.P W i.size n (.slice (some ⟨b,0,none⟩) n lv.cap) (cur.take (n*ei.sz)):=eF (by rw[hs];exact hlo) λj u hj=>(by rw[bO,B',s2.cell];rw[List.getElem?_take] at hj;split at hj;simpa using hj;cases hj);have hge:=grownCap_ge W (n+m) lv.cap e;have XV:=iR (P:=C.P) (w:=W) (ty:=ty) (c:=c') ht hi hz hold (by rw[hs];exact hn) (by omega) hf2.1 hf2.2;refine⟨_,_,XV,ρ.fZ nm ⟨l,some ⟨W.heap.size,0,none⟩,grownCap W (n+m) lv.cap e,n+m⟩,eR (l:=⟨l,some ⟨W.heap.size,0,none⟩,grownCap W (n+m) lv.cap e,n+m⟩) hH.hb hf ((Gr.refl W).drew.alloc _) (λ_ b o h=>?_),λn' Yu h'=>?_,?_⟩;injection h with h;injection h with h;subst h;exact⟨F2 _,by simp⟩
      ·obtain⟨rfl,rfl⟩:=F7 (Oi h');refine⟨_,Names.aQ,rfl,rfl,hge,λ_=>⟨W.heap.size,cur.take (n*ei.sz)++news++(Builtin.zeroCells z.cells (grownCap W (n+m) lv.cap e-(n+m))).toList,rfl,?_,?_,?_,?_,λi' YT=>?_⟩⟩;have:Zq (W.drew.alloc (.cells ((cur.take (n*ei.sz)).toArray++news.toArray++Builtin.zeroCells z.cells (grownCap W (n+m) lv.cap e-(n+m))) e)) W.heap.size _ e:=Zq.new (w:=W.drew) rfl;have e2:(cur.take (n*ei.sz)++news++(Builtin.zeroCells z.cells (grownCap W (n+m) lv.cap e-(n+m))).toList).toArray=(cur.take (n*ei.sz)).toArray++news.toArray++Builtin.zeroCells z.cells (grownCap W (n+m) lv.cap e-(n+m)):=(by apply Array.ext';simp);rw[e2];exact this
       ·rw[List.length_append,List.length_append,hlo,hlen,ga,hzc,<-Nat.add_mul,<-Nat.add_mul]
        congr 1
        dsimp only;omega
       intro c hc;rcases Xr.1 hc with hc|hc;rcases Xr.1 hc with hc|hc;exact s4 c (List.mem_of_mem_take hc);exact h1 c hc;exact gX Y2 c hc;intro i' c Y4;have:=fU (hH.hb.zok _ i' c Y4).1;omega;rcases Nat.lt_or_ge i' n with X0|hge;obtain⟨us,k1,k2,k3⟩:=s6 i' (by omega);refine⟨us,BF X0 (Zo i' X0) k1,k2,λq c hq=>?_⟩;have hql:q<ei.sz:=(by rw[<-k2];exact(F3.1 hq).1);have ZR:i'*ei.sz+ei.sz<=n*ei.sz:=(by rw[<-Nat.succ_mul];exact Xo _ X0);rw[List.append_assoc,F5 (by omega),Xn (by omega)];exact k3 q c hq;obtain⟨us,k1,k2,k3⟩:=hk (i'-n) (by omega);refine⟨us,vj hge k1,k2,λq c hq=>?_⟩;have h3:=k3 q c hq;have h4:i'*ei.sz+q=n*ei.sz+((i'-n)*ei.sz+q):=(by rw[<-Nat.add_assoc,<-Nat.add_mul];congr 2;omega);rw[List.append_assoc,F6 (by omega),hlo,F5 (by have:=(F3.1 h3).1;omega)];rw[h4,Nat.add_sub_cancel_left];exact h3
      exact⟨_,Names.aQ,rfl,by simp,hge,some ⟨W.heap.size,0,none⟩,by simp,λ_=>⟨W.heap.size,rfl,by simp⟩⟩
    cases hD
   cases hD
  cases hD
 cases hD
theorem fF.keep{XM:Names}{W:World}{q:LV}{f:Nat->List SV}(h:fF ρ W q sz f t)(hz:XM.z=ρ.z)(hb:∀b,q.cap≠0->q.a=some ⟨b,0,none⟩->W'.heap[b]? = W.heap[b]?):fF XM W' q sz f t:=by
 have hzo:XM.zo=ρ.zo:=by unfold Names.zo;rw[hz]
 refine⟨h.1,λhc=>?_⟩;obtain⟨b,u,k1,k2,k3,k4,k5,k6⟩:=h.2 hc;exact⟨b,u,k1,(hb b hc k1).trans k2,k3,k4,by rw[hz];exact k5,by rw[hzo];exact k6⟩
theorem QB(hH:YH C H ρ W)(hf:ρ.v nm=none){u:Value}(hD:MB C H nm t x y=some r)(ho:r.Ob)(hx:den ρ x u)(hy:den ρ y v) :
  ∃w W',(Builtin.append_ #[t,t] ty #[u,v]).run C.P W=.ok w W'∧eB C ρ W nm r w W':=by
 unfold MB at hD;split at hD;cases hD;rename_i e ei Yt;obtain⟨i,z,ht,hi,hs,hby,hz,Y2⟩:=bV Yt;split at hD
 ·rename_i l ep sz n;split at hD
  ·rename_i N h p Yf g tk t' hl b2 b0 b1;split at hD
   ·rename_i n2 sz2 off cap2 b3;split at hD
    ·rename_i cs t2 hl2 b4;split at hD
     ·rename_i c hlc;split at hD
      ·rename_i b5;obtain rfl:=Oi hD;obtain⟨Yo,hnN⟩:=ho;have b2:=Nb b2;have b3:=Nb b3;have b4:=Nb b4;have b5:=Nb b5;subst b2 b3 b4 hnN;have Y8:0<ei.sz:=(by rcases Nat.eq_zero_or_pos ei.sz with h|h;rw[h] at b0;cases b0;exact h);have hzl:=Nb b1;have hzc:z.cells.size=ei.sz:=(by have:=aB (cg (ρ:=ρ) Y2);rw[<-hzl,<-this];simp);have hf2:=fits (i:=i) Yo hby
       -- what is appended
       obtain⟨b',e1,rfl⟩:=hy;obtain⟨b'',vs,k1,k2,k3,k4,k5⟩:=hH.blk n2 _ (lE hl2);rw[e1] at k1;obtain rfl:=Oi k1;have hlc:=dG hlc;obtain⟨news,hnews⟩:∃news,news=(vs.drop off).take ei.sz:=⟨_,rfl⟩
       have hdc:au ρ c news:=(by rw[hlc,hnews];exact dt _ (bS _ k2));have hlen:news.length=ei.sz:=(by rw[aB hdc];exact b5);have h1:∀c∈news,c.oneCell'=true:=λc hc=>k4 c (by rw[hnews] at hc;exact List.mem_of_mem_drop (List.mem_of_mem_take hc));have hn:eL C.P W ei.sz 1 (.slice (some ⟨b',off,none⟩) 1 cap2) news:=eF (by omega) λj u hj=>by rw[hnews,List.getElem?_take] at hj;split at hj;rw[List.getElem?_drop] at hj;rw[bO,k3.cell];simpa using hj;cases hj
       -- what is there
       obtain⟨lv,p1,po,p2,p3,a',rfl,p5⟩:=hx;obtain⟨lv',K⟩:=hH.blk l _ (EM hl);have q1:=K.hv;rw[p1] at q1;obtain rfl:=Oi q1;have hNl:lv.N=n:=K.hN;simp only[Nat.sub_zero,B',Nat.zero_mul] at p2 p5 ⊢;have kidw:∀{XM:Names} {W':World},XM.k=ρ.k->XM.z=ρ.z->(∀i q b,ρ.k l i=some q->q.cap≠0->q.a=some ⟨b,0,none⟩->W'.heap[b]? = W.heap[b]?)->∀i,i<n->∃q,XM.k l i=some q∧q.N=(g i).1∧fF XM W' q Yf (g i).2 tk:=(by intro XM W' ZH Y4 hh i hi;obtain⟨q,q1,q2,q3⟩:=K.kid i hi;exact⟨q,by rw[ZH];exact q1,q2,q3.keep Y4 λb hc hb=>hh i q b q1 hc hb⟩);by_cases YX:n+1<=lv.cap;have hc:lv.cap≠0:=(by omega);obtain⟨b,YB,rfl⟩:=p5 hc;obtain⟨bb,cur,s1,s2,s3,s4,s5,s6,-,s8⟩:=K.row hc;rw[YB] at s1;obtain rfl:b=bb:=(by injection s1 with s1;injection s1);have YZ:bM ρ l b:=.inr (.inl ⟨ep,lv,0,p1,po,hc,YB⟩);have hmul:(n+1)*ei.sz<=lv.cap*ei.sz:=Xo _ YX;rw[Nat.add_mul] at hmul;have XV:=lq (P:=C.P) (w:=W) (ty:=ty) (c:=cap2) (sCap:=lv.cap) ht hi s2 (by rw[hs];exact hn) h1 YX (by rw[hs,hlen];simp;omega);rw[hs,hlen,show cur.toArray.toList=cur by simp] at XV;refine⟨_,_,XV,ρ.fZ nm ⟨l,some ⟨b,0,none⟩,lv.cap,n+1⟩,Bb (l:=⟨l,some ⟨b,0,none⟩,lv.cap,n+1⟩) hH.hb hf YZ s5 rfl,λn' Yu h'=>?_,?_⟩;obtain⟨rfl,rfl⟩:=F7 (Oi h');have hl1:(cur.take (n*ei.sz)).length=n*ei.sz:=(by rw[List.length_take];omega);refine⟨_,Names.aQ,rfl,rfl,YX,λ_=>⟨b,_,rfl,setRow_heap W b _ _ _ _ s2,?_,?_,s5,λi' YT=>?_,λcs' Z5=>?_,s8⟩,kidw rfl rfl λi' q b2 h1 h2 h3=>eU (s8 i' q b2 h1 h2 h3),K.no,K.ne⟩;simp only[List.length_append,List.length_take,List.length_drop,hlen];omega;intro c hc;rcases Xr.1 hc with hc|hc;rcases Xr.1 hc with hc|hc;exact s4 c (List.mem_of_mem_take hc);exact h1 c hc;exact s4 c (List.mem_of_mem_drop hc);obtain⟨q,us,k0,k1,k2,k3⟩:=s6 i' YT;refine⟨q,us,k0,k1,k2,λq c hq=>?_⟩;have hql:q<ei.sz:=(by rw[<-k2];exact(F3.1 hq).1);have ZR:i'*ei.sz+ei.sz<=n*ei.sz:=(by rw[<-Nat.succ_mul];exact Xo _ YT);rw[List.append_assoc,F5 (by omega),Xn (by omega)];exact k3 q c hq;obtain rfl:=Oi Z5;refine⟨news,aK (Names.iW hf) _ _ hdc,hlen,λq c hq=>?_⟩;rw[List.append_assoc,F6 (by omega),hl1,F5 (by have:=(F3.1 hq).1;omega),Nat.add_sub_cancel_left];exact hq;exact⟨_,Names.aQ,rfl,by simp,YX,some ⟨b,0,none⟩,by simp,λ_=>⟨b,rfl,by simp⟩⟩;obtain⟨old,hold,Yw,hrows⟩:∃old,eL C.P W ei.sz n (.slice a' n lv.cap) old∧(∀c∈old,c.oneCell'=true)∧∀i,i<n->∃q us,ρ.k l i=some q∧au ρ.zo ((h i).set p (.v (.slice q.a q.N q.cap))) us∧us.length=ei.sz∧∀k c,us[k]? = some c->old[i*ei.sz+k]? = some c:=by
        by_cases hc:lv.cap=0
        ·obtain rfl:n=0:=(by omega);refine⟨[],?_,(λc hc=>by cases hc),λi hi=>P' hi (by omega)⟩;cases a' with
         | none=>exact jP
         | some ad=>exact eF (by simp) λj u hj=>by simp at hj
        obtain⟨b,YB,rfl⟩:=p5 hc;obtain⟨bb,cur,s1,s2,s3,s4,s5,s6,-,s8⟩:=K.row hc;rw[YB] at s1;obtain rfl:b=bb:=(by injection s1 with s1;injection s1);have hlo:(cur.take (n*ei.sz)).length=n*ei.sz:=(by have:n*ei.sz<=lv.cap*ei.sz:=Xo _ (by omega);rw[List.length_take];omega);refine⟨cur.take (n*ei.sz),eF hlo λj u hj=>?_,λc hc=>s4 c (List.mem_of_mem_take hc),λi' YT=>?_⟩;rw[bO,B',s2.cell];rw[List.getElem?_take] at hj;split at hj;simpa using hj;cases hj;obtain⟨q,us,k0,k1,k2,k3⟩:=s6 i' YT;refine⟨q,us,k0,k1,k2,λq c hq=>?_⟩;have hql:q<ei.sz:=(by rw[<-k2];exact(F3.1 hq).1);have ZR:i'*ei.sz+ei.sz<=n*ei.sz:=(by rw[<-Nat.succ_mul];exact Xo _ YT);rw[Xn (by omega)];exact k3 q c hq
       have hlo:=hold.1;have hge:=grownCap_ge W (n+1) lv.cap e;have XV:=iR (P:=C.P) (w:=W) (ty:=ty) (c:=cap2) ht hi hz (by rw[hs];exact hold) (by rw[hs];exact hn) (by omega) hf2.1 hf2.2;have g2:Gr W (W.drew.alloc (.cells (old.toArray++news.toArray++Builtin.zeroCells z.cells (grownCap W (n+1) lv.cap e-(n+1))) e)):=(Gr.refl W).drew.alloc _;refine⟨_,_,XV,ρ.fZ nm ⟨l,some ⟨W.heap.size,0,none⟩,grownCap W (n+1) lv.cap e,n+1⟩,eR (l:=⟨l,some ⟨W.heap.size,0,none⟩,grownCap W (n+1) lv.cap e,n+1⟩) hH.hb hf g2 (λ_ b o h=>?_),λn' Yu h'=>?_,?_⟩;injection h with h;injection h with h;subst h;exact⟨F2 _,by simp⟩
       ·obtain⟨rfl,rfl⟩:=F7 (Oi h');have kb:∀i q b,ρ.k l i=some q->q.cap≠0->q.a=some ⟨b,0,none⟩->b<W.heap.size:=λi q b k1 k2 k3=>(hH.hb.low l b (.inr (.inr ⟨i,q,0,k1,k2,k3⟩))).2;refine⟨_,Names.aQ,rfl,rfl,hge,λ_=>⟨W.heap.size,old++news++(Builtin.zeroCells z.cells (grownCap W (n+1) lv.cap e-(n+1))).toList,rfl,?_,?_,?_,?_,λi' YT=>?_,λcs' Z5=>?_,λi' q b2 h1 h2 h3=>?_⟩,kidw rfl rfl λi' q b2 h1 h2 h3=>Below.block g2 b2 (kb i' q b2 h1 h2 h3),K.no,K.ne⟩;have:Zq (W.drew.alloc (.cells (old.toArray++news.toArray++Builtin.zeroCells z.cells (grownCap W (n+1) lv.cap e-(n+1))) e)) W.heap.size _ e:=Zq.new (w:=W.drew) rfl;have e2:(old++news++(Builtin.zeroCells z.cells (grownCap W (n+1) lv.cap e-(n+1))).toList).toArray=old.toArray++news.toArray++Builtin.zeroCells z.cells (grownCap W (n+1) lv.cap e-(n+1)):=(by apply Array.ext';simp);rw[e2];exact this
        ·have e3:ei.sz=1*ei.sz:=(by omega);rw[List.length_append,List.length_append,hlo,hlen,ga,hzc]
         conv=>lhs;lhs;rhs;rw[e3]
         rw[<-Nat.add_mul,<-Nat.add_mul]
         congr 1
         dsimp only;omega
        intro c hc;rcases Xr.1 hc with hc|hc;rcases Xr.1 hc with hc|hc;exact Yw c hc;exact h1 c hc;exact gX Y2 c hc;intro i' c Y4;have:=fU (hH.hb.zok _ i' c Y4).1;omega;obtain⟨q,us,k0,k1,k2,k3⟩:=hrows i' YT;refine⟨q,us,k0,k1,k2,λq c hq=>?_⟩;have:=k3 q c hq;rw[List.append_assoc,F5 (F3.1 this).1];exact this;obtain rfl:=Oi Z5;refine⟨news,aK (Names.iW hf) _ _ hdc,hlen,λq c hq=>?_⟩;rw[List.append_assoc,F6 (by omega),hlo,F5 (by have:=(F3.1 hq).1;omega),Nat.add_sub_cancel_left];exact hq;have:=kb i' q b2 h1 h2 h3;omega
       exact⟨_,Names.aQ,rfl,by simp,hge,some ⟨W.heap.size,0,none⟩,by simp,λ_=>⟨W.heap.size,rfl,by simp⟩⟩
      cases hD
     cases hD
    cases hD
   cases hD
  cases hD
 cases hD
end
end Go.Proofs.YtmdpdknpapjchaaGreatDoor
