/- A symbolic executor with lists, 10. -/
import Derived.Test.YtgigkennhdolpaaGreatDoorM9
import Derived.Laws.MakeOwn
namespace Go.Proofs.YtgigkennhdolpaaGreatDoor
open Go.RowKit
def wJ:Op->Bool
 | .store ..=>true
 | .mapUpdate ..=>true
 | _=>false
section
variable {PP:Program}{C:Cx PP}{Γ:List (UO C)}{op:ZD}{a:Act}{ρ:Names}{W W':World}{H:aY}{nm:Nat}{K:Act->World->Prop}{Q:Exit->Act->World->Prop}
theorem oy{t ty:TypeId}{x y:Operand}{pos:String}{after:Array Edge}{guard:Option (Nat×Bool)}{b off:Nat}{bt:TypeId}{u:List Value}{ti:TI}(Vz:look C.T t=some ti)(e:a.eval x=.pointer (some ⟨b,off,none⟩))(hb:WV W b u.toArray bt)
  (hl:(a.eval y).cells.toList.length=ti.sz) (hf:off+ti.sz<=u.length) (h1:∀c∈(a.eval y).cells.toList,c.oneCell'=true) :
  (execOp a.eval ⟨none,.store t x y,ty,pos,after,guard⟩).run C.P W=.ok .skip (W.setRow b (u.take off++(a.eval y).cells.toList++u.drop (off+ti.sz)).toArray):=by
 obtain⟨i,d,z,hi,WQ,Xc,hz,Wh,hk,-⟩:=(C.ty Vz).ex;have UR:¬((a.eval y).cells.size≠i.size):=by rw[Xc];simpa using hl
 have U4:=run_storeCells_at (P:=C.P) b off bt (a.eval y).cells.toList 0 u.toArray W hb (by simp at hl ⊢;omega) h1;simp only[execOp,e,Instr.storeAt,Instr.sureAddr,storeVar,sizeOf,typeInfo,UJ,UI,run_program,UH,hi,Uv UR,U4];simp only[Nat.add_zero,hl]
theorem eX.map{q:LV}{sz:Nat}{f f':Nat->List SV}{t:TypeId}(h:eX ρ W q sz f t)(hf:∀j,j<q.N->∀us,aj ρ.zo (f j) us->aj ρ.zo (f' j) us):eX ρ W q sz f' t:=
 ⟨h.1,λhc=>let ⟨b,u,k1,k2,k3,k4,k5,k6⟩:=h.2 hc;⟨b,u,k1,k2,k3,k4,k5,λi hi=>let ⟨us,q1,q2,q3⟩:=k6 i hi;⟨us,hf i hi us q1,q2,q3⟩⟩⟩
theorem Et(hH:VQ C H ρ W){t ty:TypeId}{x y:Operand}{pos:String}{after:Array Edge}{guard:Option (Nat×Bool)}{u v:SV}{r:DR}(hD:AD C H t u v=some r)(ho:r.Ob)(hx:den ρ u (a.eval x))(hy:den ρ v (a.eval y)) :
  ∃W',(execOp a.eval ⟨none,.store t x y,ty,pos,after,guard⟩).run C.P W=.ok .skip W'∧fj C ρ W nm r undef W':=by
 unfold AD at hD;split at hD
 ·rename_i ti l Vz hl;have hc:=ir hl hy;have hlen:=aB hc;split at hD
  ·rename_i b1 b2;have b1:=Nb b1;have Vr:=mg b2 hc;split at hD;rename_i n off;split at hD;rename_i cs bt WW;split at hD;rename_i b3;have b3:=L' b3;split at hD;rename_i X' Xm;obtain rfl:=Oi hD;obtain⟨b,hb,e⟩:=hx;obtain⟨b',us,k1,k2,k3,k4,k5⟩:=hH.blk n _ (kJ WW);rw[hb] at k1;obtain rfl:=Oi k1;have XH:=aB k2;refine⟨_,oy Vz e k3 (by omega) (by omega) Vr,ρ,my hH.hb (.inl hb) k5,λn' Vu h'=>?_,rfl⟩;obtain⟨rfl,rfl⟩:=P' (Oi h');refine⟨b,_,hb,?_,setRow_heap W b _ _ _ _ k3,λc VN=>?_,k5⟩;rw[dj Xm,<-b1];exact aZ (aZ (cW _ k2) hc) (bP _ k2);rcases UC.1 VN with VN|VN;rcases UC.1 VN with VN|VN;exact k4 c (List.mem_of_mem_take VN);exact Vr c VN;exact k4 c (List.mem_of_mem_drop VN);cases hD;cases hD;cases hD
   ·rename_i m e sz i off;split at hD
    ·rename_i N h bt WW Z2;split at hD
     ·rename_i c YR;split at hD
      ·rename_i b3 b4;have b3:=Nb b3;have b4:=L' b4;obtain rfl:=Oi hD;obtain⟨lv,b,p1,po,p2,p3,p4,ee⟩:=hx;obtain⟨lv',q1,q2,q3,q4,q5⟩:=hH.blk m _ (qU WW);rw[p1] at q1;obtain rfl:=Oi q1;obtain⟨b',u,s1,s2,s3,s4,s5,s6⟩:=q5 (by omega);rw[p4] at s1;obtain rfl:b=b':=(by injection s1 with s1;injection s1);have V7:bT ρ m b:=.inr (.inl ⟨e,lv,0,p1,q2,by omega,p4⟩);have hmul:i*sz+sz<=lv.cap*sz:=(by rw[<-Nat.succ_mul];exact Uz _ (by omega));have hti2:ti.sz=l.length:=b1.symm;have ZL:(u.take (i*sz+off)).length=i*sz+off:=(by rw[List.length_take];omega);refine⟨_,oy Vz ee s2 (by omega) (by omega) Vr,ρ,my hH.hb V7 s5,λn' Vu h'=>?_,rfl⟩;obtain⟨rfl,rfl⟩:=P' (Oi h');refine⟨lv,p1,q2,q3,q4,λ_=>⟨b,_,p4,setRow_heap W b _ _ _ _ s2,?_,λc VN=>?_,s5,λj hj=>?_⟩⟩;simp only[List.length_append,List.length_take,List.length_drop];omega;rcases UC.1 VN with VN|VN;rcases UC.1 VN with VN|VN;exact s4 c (List.mem_of_mem_take VN);exact Vr c VN;exact s4 c (List.mem_of_mem_drop VN);obtain⟨us,k1,k2,k3⟩:=s6 j hj;have hget:∀q:Nat,(u.take (i*sz+off)++(a.eval y).cells.toList++u.drop (i*sz+off+ti.sz))[q]? = if q<i*sz+off then u[q]? else if q<i*sz+off+ti.sz then(a.eval y).cells.toList[q-(i*sz+off)]? else u[q]?:=by
        intro q;split;rw[List.append_assoc,M' (by omega),Uy (by omega)];split;rw[List.append_assoc,O' (by omega),ZL,M' (by omega)];rw[List.append_assoc,O' (by omega),ZL,O' (by omega),List.getElem?_drop]
        congr 1
        omega
       cases XS:Nat.beq j i with
       | true=>
        have:=Nb XS;subst this;have Xe:aj ρ.zo c (us.take off++(a.eval y).cells.toList++us.drop (off+l.length)):=(by rw[dj YR];exact aZ (aZ (cW _ k1) (cu _ _ Z2 hc)) (bP _ k1));refine⟨_,by dsimp only;rw[XS];exact fw _ _ _ Xe,by rw[<-b3];exact aB Xe,λq cc hq=>?_⟩;have UY:(us.take off).length=off:=(by rw[List.length_take];omega);rw[hget];by_cases h1:q<off;rw[Uw (by omega)];rw[List.append_assoc,M' (by omega),Uy h1] at hq;exact k3 q cc hq;rw[Uv (by omega)];rw[List.append_assoc,O' (by omega),UY] at hq;by_cases h2:q<off+l.length;rw[Uw (by omega)];rw[M' (by omega)] at hq;rw[show j*sz+q-(j*sz+off)=q-off by omega];exact hq;rw[Uv (by omega)];rw[O' (by omega),List.getElem?_drop] at hq;rw[show off+l.length+(q-off-(a.eval y).cells.toList.length)=q by omega] at hq;exact k3 q cc hq
       | false=>
        have UR:j≠i:=(by rintro rfl;rw[UG] at XS;cases XS);refine⟨us,by dsimp only;rw[XS];exact cI _ _ _ (ho j hj) k1,k2,λq cc hq=>?_⟩;have hql:q<sz:=(by rw[<-k2];exact(J'.1 hq).1);rw[hget];rcases Nat.lt_or_gt_of_ne UR with h1|h1;have:j*sz+sz<=i*sz:=(by rw[<-Nat.succ_mul];exact Uz _ h1);rw[Uw (by omega)];exact k3 q cc hq;have:i*sz+sz<=j*sz:=(by rw[<-Nat.succ_mul];exact Uz _ h1);rw[Uv (by omega),Uv (by omega)];exact k3 q cc hq
      cases hD
     cases hD
    cases hD
   ·rename_i m i sz j off;split at hD
    ·rename_i e esz N h p g tk bt WW Z2;split at hD
     ·rename_i c YR;split at hD
      ·rename_i b3 b4;have b3:=Nb b3;have b4:=L' b4;obtain rfl:=Oi hD;have ho:∀a,a<N->∀b,b<(g a).1->eV c ((g a).2 b):=ho;obtain⟨q,b,p1,p2,p3,p4,ee⟩:=hx;obtain⟨lv,K⟩:=hH.blk m _ (ot WW);have hi:i<N:=Nat.lt_of_not_le λh=>(by rw[K.no i h] at p1;cases p1);obtain⟨q',r0,r1,r2,r3⟩:=K.kid i hi;rw[p1] at r0;obtain rfl:=Oi r0;obtain⟨b',u,s1,s2,s3,s4,s5,s6⟩:=r3 (by omega);rw[p4] at s1;obtain rfl:b=b':=(by injection s1 with s1;injection s1);have V7:bT ρ m b:=.inr (.inr ⟨i,q,0,p1,by omega,p4⟩);have hmul:j*sz+sz<=q.cap*sz:=(by rw[<-Nat.succ_mul];exact Uz _ (by omega));have hti2:ti.sz=l.length:=b1.symm;have ZL:(u.take (j*sz+off)).length=j*sz+off:=(by rw[List.length_take];omega);refine⟨_,oy Vz ee s2 (by omega) (by omega) Vr,ρ,my hH.hb V7 s5,λn' Vu h'=>?_,rfl⟩;obtain⟨rfl,rfl⟩:=P' (Oi h');refine⟨lv,K.hv,K.ho,K.hN,K.hle,λhc=>?_,λi' VT=>?_,K.no,K.ne⟩;obtain⟨bb,cur,t1,t2,t3,t4,t5,t6,t7,t8⟩:=K.row hc;have UR:bb≠b:=λe=>t8 i q b p1 (by omega) p4 e.symm;exact⟨bb,cur,t1,(eA UR).trans t2,t3,t4,t5,t6,t7,t8⟩;obtain⟨q',w1,w2,w3⟩:=K.kid i' VT;refine⟨q',w1,w2,?_⟩;cases hii:Nat.beq i' i with
       | false=>
        have UR:i'≠i:=(by rintro rfl;rw[UG] at hii;cases hii);have:=w3.keep (UL:=ρ) (W':=W.setRow b (u.take (j*sz+off)++(a.eval y).cells.toList++u.drop (j*sz+off+ti.sz)).toArray) rfl λb2 h1 h2=>eA λe2=>UR (K.ne i' i q' q b2 w1 p1 h1 (by omega) h2 (by rw[e2];exact p4));refine this.map λk hk us Zh=>?_;exact cI _ _ _ (ho i' VT k (by omega)) Zh
       | true=>
       have:=Nb hii;subst this;rw[p1] at w1;obtain rfl:=Oi w1;refine⟨p3,λ_=>⟨b,_,p4,setRow_heap W b _ _ _ _ s2,?_,λc VN=>?_,s5,λk hk=>?_⟩⟩;simp only[List.length_append,List.length_take,List.length_drop];omega;rcases UC.1 VN with VN|VN;rcases UC.1 VN with VN|VN;exact s4 c (List.mem_of_mem_take VN);exact Vr c VN;exact s4 c (List.mem_of_mem_drop VN);obtain⟨us,k1,k2,k3⟩:=s6 k hk;have hget:∀q:Nat,(u.take (j*sz+off)++(a.eval y).cells.toList++u.drop (j*sz+off+ti.sz))[q]? = if q<j*sz+off then u[q]? else if q<j*sz+off+ti.sz then(a.eval y).cells.toList[q-(j*sz+off)]? else u[q]?:=by
        intro q;split;rw[List.append_assoc,M' (by omega),Uy (by omega)];split;rw[List.append_assoc,O' (by omega),ZL,M' (by omega)];rw[List.append_assoc,O' (by omega),ZL,O' (by omega),List.getElem?_drop]
        congr 1
        omega
       cases XS:Nat.beq k j with
       | true=>
        have:=Nb XS;subst this;have Xe:aj ρ.zo c (us.take off++(a.eval y).cells.toList++us.drop (off+l.length)):=(by rw[dj YR];exact aZ (aZ (cW _ k1) (cu _ _ Z2 hc)) (bP _ k1));refine⟨_,by dsimp only;rw[XS];exact fw _ _ _ Xe,by rw[<-b3];exact aB Xe,λq cc hq=>?_⟩;have UY:(us.take off).length=off:=(by rw[List.length_take];omega);rw[hget];by_cases h1:q<off;rw[Uw (by omega)];rw[List.append_assoc,M' (by omega),Uy h1] at hq;exact k3 q cc hq;rw[Uv (by omega)];rw[List.append_assoc,O' (by omega),UY] at hq;by_cases h2:q<off+l.length;rw[Uw (by omega)];rw[M' (by omega)] at hq;rw[show k*sz+q-(k*sz+off)=q-off by omega];exact hq;rw[Uv (by omega)];rw[O' (by omega),List.getElem?_drop] at hq;rw[show off+l.length+(q-off-(a.eval y).cells.toList.length)=q by omega] at hq;exact k3 q cc hq
       | false=>
        have UR:k≠j:=(by rintro rfl;rw[UG] at XS;cases XS);refine⟨us,by dsimp only;rw[XS];exact cI _ _ _ (ho i' VT k (by omega)) k1,k2,λq cc hq=>?_⟩;have hql:q<sz:=(by rw[<-k2];exact(J'.1 hq).1);rw[hget];rcases Nat.lt_or_gt_of_ne UR with h1|h1;have:k*sz+sz<=j*sz:=(by rw[<-Nat.succ_mul];exact Uz _ h1);rw[Uw (by omega)];exact k3 q cc hq;have:j*sz+sz<=k*sz:=(by rw[<-Nat.succ_mul];exact Uz _ h1);rw[Uv (by omega),Uv (by omega)];exact k3 q cc hq
      cases hD
     cases hD
    cases hD
   cases hD
  cases hD
 cases hD
theorem Ef{z:Array Value}{n i q:Nat}(hi:i<n)(hq:q<z.size):(Builtin.zeroCells z n).toList[i*z.size+q]? = z[q]?:=by
 have h1:i*z.size+q<n*z.size:=by have:i*z.size+z.size<=n*z.size:=(by rw[<-Nat.succ_mul];exact Uz _ hi);omega
 have h2:(i*z.size+q)%z.size=q:=by rw[Nat.mul_comm,Nat.mul_add_mod,Nat.mod_eq_of_lt hq]
 simp[Builtin.zeroCells,h1,h2,hq]
theorem WZ.O0{UL:Names}{m:Nat}{fr:Bool}(e:WZ C ρ W nm none fr UL W')(hf:fr=false):WZ C ρ W nm (some m) fr UL W':=by subst hf;exact⟨e.le,λn b h=>(e.nn n b h).imp id λh=>Up h.2.1 (by simp),λep l h=>(e.nv ep l h).imp id λh=>Up h.2.1 (by simp),e.nz,e.nk,e.os,e.tape,e.output,e.size,λb hb _=>e.block b hb (λn hn=>by cases hn),e.hb⟩
def copyV(g:Nat->Value)(n:Nat):Nat->Nat->List Value->List Value
 | _,0,cur=>cur
 | _,_+1,[]=>[]
 | i,r+1,c::cur=>(if i<n then g i else c)::copyV g n (i+1) r cur
theorem pL{f:Nat->List SV}{g:Nat->Value}{n:Nat}(hg:∀j,j<n->aj ρ (f j) [g j]):∀(r i:Nat) (cs:List SV) (cur:List Value),DF f i r cs->aj ρ cs cur->aj ρ (vi f n i r cs) (copyV g n i r cur)
 | 0,i,cs,cur,_,h=>h
 | r+1,i,[],cur,_,h=>by obtain rfl:=cd h;exact rfl
 | r+1,i,c::cs,cur,ha,h=>by obtain⟨x,xs,rfl,h1,h2⟩:=aJ h;have ih:=pL hg r (i+1) cs xs ha.2 h2;show aj ρ (ZF (Nat.blt i n) (f i) [c]++_) (_::_);by_cases hi:i<n;rw[Uw hi,show Nat.blt i n=true from Nat.ble_eq_true_of_le hi];exact aZ (fw _ _ _ (hg i hi)) ih;have:Nat.blt i n=false:=(by cases e:Nat.blt i n;rfl;exact Up (L' e) (by omega));rw[Uv hi,this];exact aZ (cI _ _ _ ha.1 (aG h1 rfl)) ih
theorem vh{g:Nat->Value}{n:Nat} : ∀(r i:Nat) (cur:List Value) (t:Nat),(copyV g n i r cur)[t]? = if t<r∧i+t<n∧t<cur.length then some (g (i+t)) else cur[t]?
 | 0,i,cur,t=>by simp[copyV]
 | r+1,i,[],t=>by simp[copyV]
 | r+1,i,c::cur,0=>by simp only[copyV,List.getElem?_cons_zero,List.length_cons,Nat.add_zero];by_cases h:i<n;rw[Uw h,Uw ⟨by omega,h,by omega⟩];rw[Uv h,Uv (by omega)]
 | r+1,i,c::cur,t+1=>by simp only[copyV,List.getElem?_cons_succ,List.length_cons];rw[vh r (i+1) cur t];by_cases h:t<r∧i+1+t<n∧t<cur.length;rw[Uw h,Uw (by omega),show i+1+t=i+(t+1) by omega];rw[Uv h,Uv (by omega)]
theorem zw{g:Nat->Value}{n r:Nat}{cur:List Value}(h:r<=cur.length):copyV g n 0 r cur=(List.range (min n r)).map g++cur.drop (min n r):=by apply List.ext_getElem?;intro t;rw[vh];simp only[B'];by_cases ht:t<min n r;rw[Uw (by omega),M' (by simpa using ht)];simp[ht];rw[Uv (by omega),O' (by simp;omega)];simp only[List.length_map,List.length_range,List.getElem?_drop];rw[show min n r+(t-min n r)=t by omega]
theorem MQ(hH:VQ C H ρ W){t t2 ty:TypeId}{x y:SV}{u v:Value}{r:DR}(hD:JB C H t x y=some r)(ho:r.Ob)(hx:den ρ x u)(hy:den ρ y v) :
  ∃w W',(Builtin.copy_ #[t,t2] ty #[u,v]).run C.P W=.ok w W'∧fj C ρ W nm r w W':=by
 unfold JB at hD;split at hD;cases hD;rename_i e ei Vw;obtain⟨i,z,ht,hi,hs,Z7,hz,Wh⟩:=cD Vw;split at hD;cases hD;rename_i b1;have b1:=Nb b1;have YM:(C.P.info? e).map (·.size)=some 1:=by rw[hi];show some i.size=some 1;rw[hs,b1]
 split at hD;obtain⟨b,hb,rfl⟩:=hx;obtain rfl:v=_:=hy;exact⟨_,W,run_copy_nil C.P W t t2 ty e _ _ _ ht (by rw[YM];rfl),dc hH.hb (bg hD rfl)⟩;rename_i m sz off len cap m' U9 VV XL cap';split at hD;rename_i cs bt X' bt' b2 b3 hl hl';obtain⟨b,hb,rfl⟩:=hx;obtain⟨b',We,rfl⟩:=hy;obtain⟨b'',us,k1,k2,k3,k4,k5⟩:=hH.blk m _ (kJ hl);rw[hb] at k1;obtain rfl:=Oi k1;obtain⟨b3',vs,j1,j2,j3,j4,j5⟩:=hH.blk m' _ (kJ hl');rw[We] at j1;obtain rfl:=Oi j1;split at hD;rename_i l hll;have el:=dj hll;split at hD;rename_i c2 b4 b5 hc2;have b4:=Nb b4;have b5:=L' b5;have ec:=dj hc2;obtain rfl:=Oi hD;have hd:aj ρ l ((vs.drop VV).take (min XL len)):=(by rw[el];exact cW _ (bP _ j2));have hlen:=aB hd;have XH:=aB k2;have hn:((vs.drop VV).take (min XL len)).length=Nat.min XL len:=(by rw[hlen,b4]);have hsrc:∀(j:Nat) (c:Value),((vs.drop VV).take (min XL len))[j]? = some c->W.cell? ((⟨b',VV,none⟩:Addr).add j)=some c:=λj c hc=>(by have hjl:j<min XL len:=(by have:=(J'.1 hc).1;omega);rw[Uy hjl,List.getElem?_drop] at hc;rw[bM];show W.cell? ⟨b',VV+j,none⟩=some c;have j3':W.heap[b']? = some (.cells vs.toArray bt' (0,0)):=j3;have hjv:=(J'.1 hc).1;simp only[World.cell?,j3'];simpa[hjv] using hc);have h1:∀c∈(vs.drop VV).take (min XL len),c.oneCell'=true:=λc hc=>j4 c (List.mem_of_mem_drop (List.mem_of_mem_take hc));have UU:=run_copy_row C.P W t t2 ty e b off len cap ⟨b',VV,none⟩ XL cap' us.toArray bt _ ht YM k3 hn hsrc (by simp;omega) h1;refine⟨_,_,UU,ρ,my hH.hb (.inl hb) k5,λn' Vu h'=>?_,?_⟩;obtain⟨rfl,rfl⟩:=P' (Oi h');refine⟨b,_,hb,?_,setRow_heap W b _ _ _ _ k3,λc VN=>?_,k5⟩;rw[ec,<-hlen];exact aZ (aZ (cW _ k2) hd) (bP _ k2);rcases UC.1 VN with VN|VN;rcases UC.1 VN with VN|VN;exact k4 c (by simpa using List.mem_of_mem_take VN);exact h1 c VN;exact k4 c (by simpa using List.mem_of_mem_drop VN);show goInt _=.int .i64 (l.length:Nat);rw[<-hlen];rfl;cases hD;cases hD;cases hD
 ·rename_i m sz off len cap U9 n f;split at hD
  ·rename_i cs bt b2 b3 hl;have b3:=Nb b3;subst b3;split at hD
   ·rename_i c2 b5 hc2;have b5:=L' b5;have ec:=dj hc2;obtain rfl:=Oi hD;have ha:DF f 0 len (cs.drop off):=ho;obtain⟨b,hb,rfl⟩:=hx;obtain⟨b'',us,k1,k2,k3,k4,k5⟩:=hH.blk m _ (kJ hl);rw[hb] at k1;obtain rfl:=Oi k1;have XH:=aB k2;obtain⟨a,scap,rfl,hn,YQ⟩:=hy;have YY:den ρ (.v (.int .i64 (min n len:Nat))) (goInt (min n len:Nat)):=rfl;rcases Nat.eq_zero_or_pos (min n len) with h0|h0
    ·have hV:copyV (λ_=>undef) 0 0 len (us.drop off)=us.drop off:=(by rw[zw (by simp;omega)];simp);have hL:aj ρ (vi f 0 0 len (cs.drop off)) (us.drop off):=by
      have:=pL (ρ:=ρ) (f:=f) (g:=λ_=>undef) (n:=0) (λj h=>Up h (F' j)) len 0 _ _ ha (bP off k2)
      rwa [hV] at this
     have hn0:len=0∨n=0:=(by omega);have hcL:vi f n 0 len (cs.drop off)=vi f 0 0 len (cs.drop off):=(by rcases hn0 with h|h;subst h;rfl;subst h;rfl);refine⟨_,W,run_copy_none W t t2 ty e _ _ _ _ _ _ ht YM h0,ρ,(WZ.uK hH.hb (Gr.refl W)).O0 rfl,λn' Vu h'=>?_,?_⟩
     ·obtain⟨rfl,rfl⟩:=P' (Oi h');refine⟨b,us,hb,?_,k3,k4,k5⟩;rw[ec,hcL];have:=aZ (cW off k2) hL
      rwa [List.take_append_drop] at this
     show goInt 0=.int .i64 (min n len:Nat);rw[h0];rfl
    obtain⟨sb,so,-,ea,-⟩:=YQ 0 (by omega);subst ea;obtain⟨g,hg⟩:∃g:Nat->Value,g=λj=>(W.cell? ⟨sb,so+j,none⟩).getD undef:=⟨_,rfl⟩
    have hgj:∀j,j<n->aj ρ (f j) [g j]∧W.cell? ⟨sb,so+j,none⟩=some (g j)∧(g j).oneCell'=true:=λj hj=>by
     obtain⟨b1',o1,us1,e1,e2,e3,e4⟩:=YQ j hj;injection e1 with e1;injection e1 with e1 e1';subst e1 e1'
     match us1,e3 with
     | [x],_=>
      have hz:=e4 0 x rfl;have hc:=hH.hb.zok _ _ _ hz;have hc1:W.cell? ⟨sb,so+j,none⟩=some x:=(by have:=hc.1;simpa using this);have:g j=x:=(by rw[hg];simp[hc1]);rw[this];exact⟨aE (Names.um ρ) _ _ e2,hc1,hc.2⟩
    have hlenm:((List.range (min n len)).map g).length=Nat.min n len:=(by rw[List.length_map,List.length_range]);have hsrc:∀(j:Nat) (c:Value),((List.range (min n len)).map g)[j]? = some c->W.cell? ((⟨sb,so,none⟩:Addr).add j)=some c:=λj c hc=>(by have hj:j<min n len:=(by have:=(J'.1 hc).1;simpa using this);rw[bM];simp[hj] at hc;rw[<-hc];exact(hgj j (by omega)).2.1);have h1:∀c∈(List.range (min n len)).map g,c.oneCell'=true:=λc hc=>(by obtain⟨j,hj,rfl⟩:=List.mem_map.1 hc;rw[List.mem_range] at hj;exact(hgj j (by omega)).2.2);have UU:=run_copy_row C.P W t t2 ty e b off len cap ⟨sb,so,none⟩ n scap us.toArray bt _ ht YM k3 hlenm hsrc (by simp;omega) h1;have erow:us.take off++(List.range (min n len)).map g++us.drop (off+((List.range (min n len)).map g).length)=us.take off++copyV g n 0 len (us.drop off):=(by rw[zw (by simp;omega),List.append_assoc,List.drop_drop,List.length_map,List.length_range]);refine⟨_,_,UU,ρ,my hH.hb (.inl hb) k5,λn' Vu h'=>?_,?_⟩;obtain⟨rfl,rfl⟩:=P' (Oi h');refine⟨b,_,hb,?_,setRow_heap W b _ _ _ _ k3,λc VN=>?_,k5⟩;rw[ec];show aj ρ _ (us.take off++(List.range (min n len)).map g++us.drop (off+((List.range (min n len)).map g).length));rw[erow];exact aZ (cW _ k2) (pL (λj hj=>(hgj j hj).1) len 0 _ _ ha (bP off k2));rcases UC.1 VN with VN|VN;rcases UC.1 VN with VN|VN;exact k4 c (by simpa using List.mem_of_mem_take VN);exact h1 c VN;exact k4 c (by simpa using List.mem_of_mem_drop VN);show goInt _=.int .i64 (min n len:Nat);rw[hlenm];rfl
   cases hD
  cases hD
 cases hD
theorem LZ(hH:VQ C H ρ W)(hf:ρ.v nm=none){t:TypeId}{x y:SV}{u v:Value}{r:DR}(hD:yu C nm t x y=some r)(ho:r.Ob)(hx:den ρ x u)(hy:den ρ y v) :
  ∃w W',(Instr.makeSlice t u v).run C.P W=.ok w W'∧fj C ρ W nm r w W':=by
 unfold yu at hD;split at hD
 ·rename_i e ei k n k' m Vw hn hm;obtain⟨i,z,ht,hi,hs,Z7,hz,Wh⟩:=cD Vw;split at hD
  ·rename_i b0 b1;have YK:=Nb b1;have ZX:z.cells.size=ei.sz:=(by have:=aB (cq (ρ:=ρ) Wh);rw[<-YK,<-this];simp);obtain rfl:=Oi hD;obtain⟨h0,h1,Vn⟩:=ho;have ZM:=fits (i:=i) Vn Z7;obtain rfl:=SV.int?_den hn hx;obtain rfl:=SV.int?_den hm hy;obtain⟨M,rfl⟩:∃M:Nat,m=M:=⟨m.toNat,by omega⟩
   obtain⟨N,rfl⟩:∃N:Nat,n=N:=⟨n.toNat,by omega⟩
   have hNM:N<=M:=(by omega);simp only[Int.toNat_natCast] at ZM ⊢;have hcells:madeCells z.cells (M*i.size)=Builtin.zeroCells z.cells M:=(by simp[madeCells,Builtin.zeroCells,hs,ZX]);have Zt:=ZM.1;simp[maxLen] at Zt;have h3:(i.bytes:Int)*(M:Int)<=281474976710656:=(by have h4:((M*i.bytes:Nat):Int)<=140737488355328:=Int.ofNat_le.2 ZM.2;rw[Int.natCast_mul,Int.mul_comm] at h4;exact Int.le_trans h4 (by decide));have UU:=Go.run_make (P:=C.P) W t e i z ht hi hz k k' (N:Int) (M:Int) h0 h1 h3 (by omega);simp only[Int.toNat_natCast] at UU;rw[hcells] at UU;have g:Gr W (W.alloc (.cells (Builtin.zeroCells z.cells M) e)):=(Gr.refl W).alloc _;refine⟨_,_,UU,ρ.fT nm ⟨nm,some ⟨W.heap.size,0,none⟩,M,N⟩,eT (l:=⟨nm,some ⟨W.heap.size,0,none⟩,M,N⟩) hH.hb hf g (λ_ b o h=>?_),λn' sb h=>?_,?_⟩;injection h with h;injection h with h;subst h;exact⟨I' _,by simp⟩;obtain⟨rfl,rfl⟩:=P' (Oi h);refine⟨_,Names.aN,rfl,rfl,hNM,λ_=>⟨W.heap.size,(Builtin.zeroCells z.cells M).toList,rfl,?_,?_,?_,?_,?_⟩⟩;have:WV (W.alloc (.cells (Builtin.zeroCells z.cells M) e)) W.heap.size _ e:=WV.new (w:=W) rfl;exact this;rw[jD,ZX];exact jC Wh;intro i' c V5;have:=iu (hH.hb.zok _ i' c V5).1;omega;intro i' VT;refine⟨z.cells.toList,cq Wh,by simpa using ZX,λq c hq=>?_⟩;have hql:q<z.cells.size:=(by have:=(J'.1 hq).1;simpa using this);rw[<-ZX,Ef (by omega) hql];simpa using hq;exact⟨_,Names.aN,rfl,by simp,hNM,some ⟨W.heap.size,0,none⟩,by simp,λ_=>⟨W.heap.size,rfl,by simp⟩⟩
  cases hD
 cases hD
theorem Iw{t:TypeId}{x y:SV}{r:DR}(hD:yu C nm t x y=some r):r.fr=true:=by unfold yu at hD;split at hD;split at hD;obtain rfl:=Oi hD;rfl;cases hD;cases hD
theorem CV{t:Nat}{kk:mN}{ei:TI}(h:Iu C t=some (kk,ei)):∃k e i z d,C.P.underlying t=some (.map k e)∧(∃d,C.P.underlying k=some d∧∀n,Go.MapKept.IsKey d (jw kk n))∧C.P.info? e=some i∧i.zero=some z∧eH z.cells.toList ei.z=true∧C.P.underlying e=some d∧aR d ei.k=true∧QX z=gY ei.k:=by
 unfold Iu at h;split at h;cases h;rename_i ti Vz;obtain⟨i0,d0,z0,-,Yh,-,-,-,Ye,-⟩:=(C.ty Vz).ex;split at h
 ·rename_i k e V6;rw[V6] at Ye;obtain rfl:d0=.map k e:=by
   cases d0 with
   | map k' e'=>
    simp only[aR,Uk,beq_iff_eq] at Ye;rw[Ye.1,Ye.2]
   | _=>first|cases Ye|(simp[aR] at Ye)
  split at h
  ·rename_i ki ei' XR Vw;obtain⟨i1,d1,z1,-,Wl,-,-,-,Wi,-⟩:=(C.ty XR).ex;obtain⟨i2,d2,z2,YP,Xe,-,YX,Yd,X1,-⟩:=(C.ty Vw).ex;split at h
   ·rename_i kk' Xl;obtain⟨rfl,rfl⟩:=P' (Oi h);have hkey:∀n,Go.MapKept.IsKey d1 (jw kk' n):=λn=>by
     unfold mkK at Xl;split at Xl
     ·rename_i kq e1;obtain rfl:=Oi Xl;rw[e1] at Wi;cases d1 with
      | int k'=>obtain rfl:k'=kq:=Od Wi;rfl
      | _=>first|cases Wi|(simp[aR] at Wi)
     ·rename_i e1;obtain rfl:=Oi Xl;rw[e1] at Wi;cases d1 with
      | string=>trivial
      | _=>first|cases Wi|(simp[aR] at Wi)
     cases Xl
    exact⟨k,e,i2,z2,d2,Yh,⟨d1,Wl,hkey⟩,YP,YX,Yd,Xe,X1,(C.ty Vw).ag _ _ YP YX⟩
   cases h
  cases h
 cases h
theorem yF(k:mN)(n:Int):pf (jw k n):=by cases k<;>trivial
theorem SV.key?_den{ρ:Names}{x:SV}{v:Value}{k:mN}{q:Int}(h:x.key? = some (k,q))(hd:den ρ x v):v=jw k q:=by unfold SV.key? at h;split at h;obtain⟨rfl,rfl⟩:=P' (Oi h);exact hd;obtain⟨rfl,rfl⟩:=P' (Oi h);exact hd;obtain⟨rfl,rfl⟩:=P' (Oi h);exact(show v=_ from hd).trans (Uo Value.string (Ff _).symm);cases h
theorem CU{n:Nat}{k:mN}{ag:Bool}{has:Int->Bool}{g:Int->List SV}(h:maps H n=some (k,ag,has,g)):look H n=some (.mp k ag has g):=by unfold maps at h;split at h;rename_i hl;obtain⟨rfl,h1⟩:=P' (Oi h);obtain⟨rfl,h2⟩:=P' h1;obtain⟨rfl,rfl⟩:=P' h2;exact hl;cases h
theorem ES(hH:VQ C H ρ W)(hf:ρ.n nm=none){t:TypeId}{r:DR}(hD:pb C nm t=some r):fj C ρ W nm r (.map (some W.heap.size)) (W.alloc (.map #[] 0)):=by unfold pb at hD;split at hD;obtain rfl:=Oi hD;have g:Gr W (W.alloc (.map #[] 0)):=(Gr.refl W).alloc _;refine⟨ρ.tL nm W.heap.size,zp hH.hb hf g (I' _) (by simp),λn sb h=>?_,_,Names.fR,rfl⟩;obtain⟨rfl,rfl⟩:=P' (Oi h);exact⟨_,#[],0,Names.fR,(Go.MapKept.heap_alloc W _).1,Go.MapKept.stamped_empty 0,⟨λe he=>Up he (by simp),λn hn=>Bool.noConfusion hn⟩⟩;cases hD
theorem NO{t:TypeId}{x y:SV}{r:DR}(hD:Ke C H nm t x y=some r):r.fr=true:=by
 unfold Ke at hD;repeat' split at hD
 all_goals first|(obtain rfl:=Oi hD;rfl)|cases hD
theorem ET{t:TypeId}{r:DR}(hD:pb C nm t=some r):r.fr=true:=by unfold pb at hD;split at hD;obtain rfl:=Oi hD;rfl;cases hD
theorem Dx{n b:Nat}{o o':Obj}(hb:HB C ρ W)(hn:ρ.n n=some b)(ho:W.heap[b]? = some o)(hz:∀i c,¬ρ.z b i c):WZ C ρ W nm (some n) false ρ {W with heap:=W.heap.setIfInBounds b o'}:=by
 have hs:({W with heap:=W.heap.setIfInBounds b o'} : World).heap.size=W.heap.size:=by simp
 have hoth:∀b',b'≠b->({W with heap:=W.heap.setIfInBounds b o'} : World).heap[b']? = W.heap[b']?:=(Go.MapKept.heap_set (w:=W) (o':=o') ho).2;have hl:=hb.low n b (.inl hn);refine⟨.refl _,λ_ _ h=>.inl h,λ_ _ h=>.inl h,λ_ _ _ h=>.inl h,λ_ _=>rfl,rfl,rfl,rfl,Nat.le_of_eq hs.symm,λb' _ hn'=>hoth b' (by rintro rfl;exact hn' n rfl (.inl hn)),?_⟩;refine⟨hb.own,λn b h=>by rw[hs];exact hb.low n b h,λb' i c h=>?_,hb.grd.keep (Nat.le_of_eq hs.symm) λb' We=>hoth b' (by omega)⟩;have UR:b'≠b:=by rintro rfl;exact hz i c h
 exact⟨(cell_of_heap (hoth b' UR)).trans (hb.zok b' i c h).1,(hb.zok b' i c h).2⟩
theorem yr{ag:Bool}{v:SV}{l:List SV}{y:Value}(h:sw ag v=some l)(hd:den ρ v y):∃u,aj ρ l u∧DY ag u y:=by unfold sw at h;split at h;obtain rfl:=Oi h;obtain⟨u,h1,h2⟩:=hd;exact⟨u,h1,h2⟩;cases h;cases h;cases h;cases h;obtain rfl:=Oi h;exact⟨[y],aG hd rfl,rfl⟩;cases h
theorem EN{α:Type}{l:List α}(h:l.Nodup){i j:Nat}(hi:i<l.length)(hj:j<l.length)(e:l[i]=l[j]):i=j:=by rcases Nat.lt_trichotomy i j with k|k|k;exact Up e (List.pairwise_iff_getElem.1 h i j hi hj k);exact k;exact Up e.symm (List.pairwise_iff_getElem.1 h j i hj hi k)
theorem ER(hH:VQ C H ρ W){t:TypeId}{x i v:SV}{ux ui uv:Value}{r:DR}(hD:wv C H t x i v=some r)(ho:r.Ob)(hx:den ρ x ux)(hi:den ρ i ui)(hv:den ρ v uv) :
  ∃W',(Instr.mapUpdate t ux ui uv).run C.P W=.ok () W'∧∀nm,fj C ρ W nm r undef W':=by
 unfold wv at hD;split at hD
 ·rename_i kk ei n hmt;obtain⟨kt,et,inf,z,d,ht,⟨d0,hkt,Xl⟩,-⟩:=CV hmt;split at hD
  ·rename_i k ag has g k' q hmp hq;split at hD
   ·rename_i l Wi X1 hl;split at hD
    ·rename_i Z2;obtain rfl:=jF Wi;obtain rfl:=jF X1;obtain rfl:=Oi hD;have YS:∀j,eV l (g j):=ho;obtain⟨b,e1,rfl⟩:=hx;obtain rfl:=SV.key?_den hq hi;obtain⟨b',es,cl,h1,h2,h3,h4⟩:=hH.blk n _ (CU hmp);rw[e1] at h1;obtain rfl:=Oi h1;obtain⟨u,hu1,hu2⟩:=yr hl hv;have hu3:=cu _ _ Z2 hu1;have V0:∀i c,¬ρ.z b i c:=λi c hz=>(by have:=(hH.hb.zok b i c hz).1;simp[World.cell?,h2] at this);have hks:∀x∈es.toList,Go.MapKept.IsKey d0 x.key:=λx hx=>(by obtain⟨m,hm,-⟩:=h4.keys x hx;rw[hm];exact Xl _);have hk:Go.MapKept.IsKey d0 (jw k' q):=Xl _;rcases Go.MapKept.findNow_spec hk es.toList 0 hks with ⟨f1,f2⟩|⟨j,e,f1,f2,f3⟩
     have UU:(Instr.mapUpdate t (.map (some b)) (jw k' q) uv).run C.P W=.ok () {W with heap:=W.heap.setIfInBounds b (.map (es.push {key:=jw k' q,val:=uv,born:=cl}) (cl+1))}:=(by simp[Instr.mapUpdate,run_underlying ht,Go.MapKept.run_getObj_map h2,Go.MapKept.run_checkKey hkt hk,Go.MapKept.run_findKey hkt f1,Go.MapKept.run_setObj_map _ h2,Result.andThen]);refine⟨_,UU,λnm=>⟨ρ,Dx hH.hb e1 h2 V0,λn' sb hn'=>?_,rfl⟩⟩;obtain⟨rfl,rfl⟩:=P' (Oi hn');refine⟨b,_,_,e1,(Go.MapKept.heap_set h2).1,Go.MapKept.stamped_push h3 f2,λx hx=>?_,λm hm=>?_⟩;simp only[Array.toList_push,UC,List.mem_singleton] at hx;rcases hx with hx|rfl;obtain⟨m,q1,q2,us,q3,q4⟩:=h4.keys x hx;have UR:m≠q:=λe=>f2 x hx (by rw[q1,e]);refine⟨m,q1,by rw[q2,Bool.or_true],us,?_,q4⟩;rw[Ut UR];exact cI _ _ _ (YS m) q3;refine⟨q,rfl,by rw[Uu rfl,Bool.true_or],u,?_,hu2⟩;rw[Uu rfl];exact fw _ _ _ hu3;by_cases e:m=q;subst e;exact⟨_,by simp only[Array.toList_push,UC,List.mem_singleton];exact .inr rfl,rfl⟩;rw[Ut e,Bool.false_or] at hm;obtain⟨x,hx,q1⟩:=h4.yes m hm;exact⟨x,by simp only[Array.toList_push,UC];exact .inl hx,q1⟩;have hj:es[j]? = some e:=(by simpa using f2);have UU:(Instr.mapUpdate t (.map (some b)) (jw k' q) uv).run C.P W=.ok () {W with heap:=W.heap.setIfInBounds b (.map (es.modify j λe=>{e with key:=jw k' q,val:=uv}) cl)}:=(by simp[Instr.mapUpdate,run_underlying ht,Go.MapKept.run_getObj_map h2,Go.MapKept.run_checkKey hkt hk,Go.MapKept.run_findKey hkt f1,hj,f3,Go.MapKept.run_keyThatStays hk,Go.MapKept.run_setObj_map _ h2,Result.andThen]);have hkey:∀e',es[j]? = some e'->({e' with key:=jw k' q,val:=uv} : MapEntry).key=e'.key:=λe' ZN=>(by rw[hj] at ZN;cases ZN;exact f3.symm);refine⟨_,UU,λnm=>⟨ρ,Dx hH.hb e1 h2 V0,λn' sb hn'=>?_,rfl⟩⟩;obtain⟨rfl,rfl⟩:=P' (Oi hn');refine⟨b,_,_,e1,(Go.MapKept.heap_set h2).1,Go.MapKept.stamped_modify h3 _ _ (λ_ _=>rfl) (λe' _ ZN=>hkey e' ZN),λx hx=>?_,λm hm=>?_⟩;obtain⟨i',VT,hxi⟩:=List.mem_iff_getElem.1 hx;have ZY:(es.modify j λe=>{e with key:=jw k' q,val:=uv})[i']? = some x:=(by rw[<-Array.getElem?_toList,UE VT,hxi]);rw[Array.getElem?_modify] at ZY;by_cases Yy:j=i';subst Yy;rw[Uw rfl,hj] at ZY;obtain rfl:=Oi ZY;refine⟨q,rfl,by rw[Uu rfl,Bool.true_or],u,?_,hu2⟩;rw[Uu rfl];exact fw _ _ _ hu3;rw[Uv Yy] at ZY;have hxm:x∈es.toList:=(by have:es.toList[i']? = some x:=(by simpa using ZY);exact UF this);obtain⟨m,q1,q2,us,q3,q4⟩:=h4.keys x hxm;have UR:m≠q:=λem=>Yy (by have hnd:=h3.2.2;have a1:(es.toList.map (·.key))[j]? = some (jw k' q):=(by simp[hj,f3]);have a2:(es.toList.map (·.key))[i']? = some (jw k' q):=(by have:es.toList[i']? = some x:=(by simpa using ZY);rw[List.getElem?_map,this,Option.map_some,q1,em]);obtain⟨b1,c1⟩:=J'.1 a1;obtain⟨b2,c2⟩:=J'.1 a2;exact EN hnd b1 b2 (c1.trans c2.symm));refine⟨m,q1,by rw[q2,Bool.or_true],us,?_,q4⟩;rw[Ut UR];exact cI _ _ _ (YS m) q3;have hkeys:=Go.MapKept.modify_keys (es:=es) j (λe=>{e with key:=jw k' q,val:=uv}) hkey;have Xr:(jw k' m:Value)∈es.toList.map (·.key):=(by by_cases em:m=q;subst em;exact List.mem_map.2 ⟨e,UF f2,f3⟩;rw[Ut em,Bool.false_or] at hm;obtain⟨x,hx,q1⟩:=h4.yes m hm;exact List.mem_map.2 ⟨x,hx,q1⟩);rw[<-hkeys] at Xr;obtain⟨x,hx,q1⟩:=List.mem_map.1 Xr;exact⟨x,hx,q1⟩
    cases hD
   cases hD
  cases hD
 cases hD
theorem uO{ag:Bool}{l:List SV}{v:SV}{u:List Value}{y:Value}(h:mapVal ag l=some v)(hd:aj ρ l u)(hc:DY ag u y):den ρ v y:=by unfold mapVal at h;split at h;obtain rfl:=Oi h;exact⟨u,hd,hc⟩;rename_i x;obtain rfl:=Oi h;obtain rfl:u=[y]:=hc;obtain⟨a,b,e1,e2,-⟩:=aJ hd;obtain rfl:y=a:=(by injection e1);exact e2;cases h
theorem uC{a b:Bool}(h:AO a b=true):a=b:=by cases a<;>cases b<;>first|rfl|cases h
theorem EU(hH:VQ C H ρ W){t:TypeId}{x i:SV}{ok:Bool}{ux ui:Value}{r:DR}(hD:wx C H t x i ok=some r)(ho:r.Ob)(hx:den ρ x ux)(hi:den ρ i ui) :
  ∃y,(Instr.lookup t ux ui ok).run C.P W=.ok y W∧Yields r ρ y:=by
 unfold wx at hD;split at hD
 ·rename_i kk ei n hmt;obtain⟨kt,et,inf,z,d,ht,⟨d0,hkt,Xl⟩,Vw,hz,Wh,hde,hke,hav⟩:=CV hmt;split at hD
  ·rename_i k ag has g k' q hmp hq;split at hD
   ·rename_i v Wi X1 VR hv;obtain rfl:=jF Wi;obtain rfl:=jF X1;obtain rfl:=uC VR;obtain⟨b,e1,rfl⟩:=hx;obtain rfl:=SV.key?_den hq hi;obtain⟨b',es,cl,h1,h2,h3,h4⟩:=hH.blk n _ (CU hmp);rw[e1] at h1;obtain rfl:=Oi h1;have YS:eV (g q) ei.z:=by cases ok<;>(obtain rfl:=Oi hD;exact ho)
    have hks:∀x∈es.toList,Go.MapKept.IsKey d0 x.key:=λx hx=>(by obtain⟨m,hm,-⟩:=h4.keys x hx;rw[hm];exact Xl _);have hk:Go.MapKept.IsKey d0 (jw k' q):=Xl _;have key:∃y,(Instr.lookup t (.map (some b)) (jw k' q) ok).run C.P W=.ok (if ok then .tuple #[y,.bool (has q)] else y) W∧den ρ v y:=by
     rcases Go.MapKept.findNow_spec hk es.toList 0 hks with ⟨f1,f2⟩|⟨j,e,f1,f2,f3⟩
     ·have hq0:has q=false:=by
       cases hh:has q with
       | false=>rfl
       | true=>
        obtain⟨x,hx,q1⟩:=h4.yes q hh;exact Up q1 (f2 x hx)
      refine⟨z,?_,?_⟩;simp[Instr.lookup,run_underlying ht,Go.MapKept.run_getObj_map h2,Go.MapKept.run_checkKey hkt hk,Go.MapKept.run_findKey hkt f1,zeroValue,typeInfo,Vw,hz,hq0,Result.andThen];rw[hq0] at hv;have ZX:∃u,aj ρ ei.z u∧DY (gY ei.k) u z:=(by refine⟨z.cells.toList,cq Wh,?_⟩;rw[<-hav];cases z<;>rfl);obtain⟨u,k1,k2⟩:=ZX;exact uO hv (cI _ _ _ YS k1) k2
     have hem:e∈es.toList:=UF f2;obtain⟨m,q1,q2,u,q3,q4⟩:=h4.keys e hem;have hmq:m=q:=(by rw[f3] at q1;exact(IF q1).symm);subst hmq;refine⟨e.val,?_,?_⟩;simp[Instr.lookup,run_underlying ht,Go.MapKept.run_getObj_map h2,Go.MapKept.run_checkKey hkt hk,Go.MapKept.run_findKey hkt f1,q2,Result.andThen];rw[q2] at hv;exact uO hv (fw _ _ _ (aE (Names.um ρ) _ _ q3)) q4
    obtain⟨y,hy1,hy2⟩:=key;cases ok with
    | true=>
     obtain rfl:=Oi hD;exact⟨_,hy1,rfl,rfl,[y,.bool (has q)],aG hy2 (aG rfl rfl),rfl⟩
    | false=>
     obtain rfl:=Oi hD;exact⟨_,hy1,rfl,rfl,hy2⟩
   cases hD
  cases hD
 cases hD
theorem oA{f:FuncId}{c:Call}{dst:Option Tmp}{ty:TypeId}{pos:String}{after:Array Edge}{guard:Option (Nat×Bool)}{x:Operand}{first captured al:Array Value}{P:Program}
  (hc:c.callee=.value x) (hx:a.eval x=.func (.func f) first captured) (en:∀(args:Array Value) (w:World),(callFunc f args).run P w=.ok (.enter f args) w) (e:first++c.args.map a.eval++captured=al) :
  (execOp a.eval ⟨dst,.call c,ty,pos,after,guard⟩).run P W=.ok (.enter f al) W:=by
 subst e;simp only[execOp,resolve,hc,hx,Deferred.ofValue,UJ,UI,UH,invoke,en]
theorem mE(h:lh op a ρ){c:Call}{x:Operand}{sf:SV}{g:Nat}{first captured args:List SV}(hsf:op [] x=some sf)(hg:callee sf=some (g,first,captured))(U7:YW op c.args.toList=some args) :
  ∃fv cv,a.eval x=.func (.func g) fv cv∧aj ρ (first++args++captured) (fv++c.args.map a.eval++cv).toList:=by
 have hf:=h.get hsf;have ha:=gJ h U7;unfold callee at hg;split at hg;obtain⟨e1,e2⟩:=P' (Oi hg);obtain⟨e2,e3⟩:=P' e2;subst e1 e2 e3;exact⟨#[],#[],hf,by simpa using ha⟩;obtain⟨e1,e2⟩:=P' (Oi hg);obtain⟨e2,e3⟩:=P' e2;subst e1 e2 e3;obtain⟨u,w,k1,k2,k3⟩:=hf;refine⟨_,_,k3,?_⟩;have:=aZ (aZ k1 ha) k2;simpa using this;cases hg
theorem Hg{l:List Nat}{t:Nat}(h:Hh l=some t):l=[t,t]:=by unfold Hh at h;split at h;split at h;rename_i b;obtain rfl:=Oi h;have:=Nb b;subst this;rfl;cases h;cases h
theorem NP{t:TypeId}{x y:SV}{r:DR}(hD:Kg C H nm t x y=some r):r.fr=true:=by unfold Kg at hD;split at hD;cases hD;split at hD;split at hD;obtain rfl:=Oi hD;rfl;obtain rfl:=Oi hD;rfl;split at hD;split at hD;obtain rfl:=Oi hD;rfl;cases hD;cases hD;cases hD;cases hD
theorem J5{r:DR}(hH:VQ C H ρ W)(hf:r.fr=true->ρ.v nm=none)(h:lh op a ρ){c:Call}{dst:Option Tmp}{ty:TypeId}{pos:String}{after:Array Edge}{guard:Option (Nat×Bool)}
  (hD:DZ Γ op H nm c=some r) (ho:r.Ob) (hK:∀val W',fj C ρ W nm r val W'->K (a.put dst val) W'):cR C.P C.co ⟨dst,.call c,ty,pos,after,guard⟩ a W K:=by
 unfold DZ at hD;split at hD
 ·rename_i x WI;split at hD
  ·rename_i sf hsf;split at hD
   ·rename_i g first captured args hg U7
    split at hD;rename_i con hcon;split at hD;rename_i al YS;obtain rfl:=dj YS;obtain rfl:=wO hcon;obtain⟨fv,cv,XI,U1⟩:=mE h hsf hg U7;have Y5:br C.P C.co con.f (fv++c.args.map a.eval++cv).toList.toArray W λe W'=>∃val,e=.returned val∧fj C ρ W nm r val W':=(by split at hD;rename_i g hg;exact con.effOk g hg ρ W H nm _ _ r hH hf U1 hD ho;exact K9 (nm:=nm) hH hf hD ho U1);unfold cR;rw[oA WI XI con.en rfl];show br _ _ _ _ _ _;have e:(fv++c.args.map a.eval++cv).toList.toArray=fv++c.args.map a.eval++cv:=(by simp);rw[e] at Y5;refine Y5.mono ?_;rintro e W' ⟨val,rfl,hp⟩;exact hK val W' hp;cases hD;cases hD
   cases hD
  cases hD
 rename_i WI;split at hD;rename_i l U7;obtain⟨w,hw,hr⟩:=ic hD;obtain⟨y,k1,k2⟩:=L5 (ty:=ty) (W:=W) hw (gJ h U7);refine bs (v:=y) ?_ (hK _ _ (dc hH.hb (bg hr k1)));have e:(c.args.map a.eval).toList.toArray=c.args.map a.eval:=rfl;rw[e] at k2;simp only[execOp,resolve,WI,UJ,UI,UH,invoke,builtin,k2];cases hD;rename_i WI;split at hD;rename_i l U7;obtain⟨w,hw,hr⟩:=ic hD;obtain⟨y,k1,k2⟩:=Is (ty:=ty) (W:=W) (C:=C) (ats:=c.argTypes) hw (gJ h U7);refine bs (v:=y) ?_ (hK _ _ (dc hH.hb (bg hr k1)));have e:(c.args.map a.eval).toList.toArray=c.args.map a.eval:=rfl;rw[e,Uw rfl] at k2;simp only[execOp,resolve,WI,UJ,UI,UH,invoke,builtin,k2];cases hD;rename_i WI;split at hD;rename_i l U7;obtain⟨w,hw,hr⟩:=ic hD;obtain⟨y,k1,k2⟩:=Is (ty:=ty) (W:=W) (C:=C) (ats:=c.argTypes) hw (gJ h U7);refine bs (v:=y) ?_ (hK _ _ (dc hH.hb (bg hr k1)));have e:(c.args.map a.eval).toList.toArray=c.args.map a.eval:=rfl;rw[e,Uv (by simp)] at k2;simp only[execOp,resolve,WI,UJ,UI,UH,invoke,builtin,k2];cases hD;rename_i WI;split at hD;rename_i x y t U7 ht;have hd:=gJ h U7;obtain⟨u,us,e1,e2,e3⟩:=aJ hd;obtain⟨v,Zd,rfl,e5,e6⟩:=aJ e3;obtain rfl:=cd e6;obtain⟨w,W',k1,k2⟩:∃w W',(Builtin.append_ #[t,t] ty #[u,v]).run C.P W=.ok w W'∧fj C ρ W nm r w W':=(by split at hD;rename_i r' hr;obtain rfl:=Oi hD;exact QU (ty:=ty) hH (hf (NP hr)) hr ho e2 e5;exact NN (ty:=ty) hH (hf (NO hD)) hD ho e2 e5);have ht2:=Hg ht;have e7:c.args.map a.eval=#[u,v]:=(by apply Array.ext';rw[e1]);have e8:c.argTypes=#[t,t]:=(by apply Array.ext';rw[ht2]);refine eL (v:=w) ?_ (hK _ _ k2);simp only[execOp,resolve,WI,e7,e8,UJ,UI,UH,invoke,builtin,k1];cases hD;rename_i WI;split at hD;rename_i x y t t2 U7 ht;have hd:=gJ h U7;obtain⟨u,us,e1,e2,e3⟩:=aJ hd;obtain⟨v,Zd,rfl,e5,e6⟩:=aJ e3;obtain rfl:=cd e6;obtain⟨w,W',k1,k2⟩:=MQ (nm:=nm) (ty:=ty) (t2:=t2) hH hD ho e2 e5;have e7:c.args.map a.eval=#[u,v]:=(by apply Array.ext';rw[e1]);have e8:c.argTypes=#[t,t2]:=(by apply Array.ext';rw[ht]);refine eL (v:=w) ?_ (hK _ _ k2);simp only[execOp,resolve,WI,e7,e8,UJ,UI,UH,invoke,builtin,k1];cases hD;cases hD
theorem ug{s:TypeId}{x:Operand}{k fo:Nat}{fi:TI}{u v:SV}{dst:Option Tmp}{ty:TypeId}{pos:String}{after:Array Edge}{guard:Option (Nat×Bool)}(Zw:lS C s k=some (fo,fi))(h:kQ u fo fi.sz=some v)(hx:den ρ u (a.eval x)) :
  ∃y,den ρ v y∧(execOp a.eval ⟨dst,.fieldAddr s x k,ty,pos,after,guard⟩).run C.P W=.ok (.value y) W:=by
 obtain⟨fs,f,i,d,e1,e2,e3,e4,e5,e6,e7⟩:=iC Zw;unfold kQ at h;split at h;cases h;rename_i m hm;have key:∀{b off:Nat},a.eval x=.pointer (some ⟨b,off,none⟩)->(execOp a.eval ⟨dst,.fieldAddr s x k,ty,pos,after,guard⟩).run C.P W=.ok (.value (.pointer (some ⟨b,off+fo,none⟩))) W:=by intro b off e;have:=zd (dst:=dst) (ty:=ty) (pos:=pos) (after:=after) (guard:=guard) (w:=W) e e1 e2 e4 (by omega);rw[bM,e3] at this;exact this
 split at h;obtain rfl:=Oi h;obtain⟨b,hb,e⟩:=hx;exact⟨_,⟨b,hb,rfl⟩,key e⟩;obtain rfl:=Oi h;exact⟨_,rfl,key hx⟩;obtain rfl:=Oi h;obtain⟨b,o,us,e,k2,k3⟩:=hx;exact⟨_,⟨b,o,us,by rw[Nat.add_assoc],k2,k3⟩,key e⟩;obtain rfl:=Oi h;obtain⟨l,b,p1,po,p2,p3,p4,e⟩:=hx;exact⟨_,⟨l,b,p1,po,p2,p3,p4,by rw[Nat.add_assoc]⟩,key e⟩;obtain rfl:=Oi h;obtain⟨l,b,p1,p2,p3,p4,e⟩:=hx;exact⟨_,⟨l,b,p1,p2,p3,p4,by rw[Nat.add_assoc]⟩,key e⟩;cases h
theorem FB{r:DR}(hH:VQ C H ρ W)(hf:r.fr=true->ρ.n nm=none)(h:lh op a ρ){t len:Nat}{parts:Array (Nat×Operand)}{ps:List (Nat×SV)}{dst:Option Tmp}{ty:TypeId}{pos:String}{after:Array Edge}{guard:Option (Nat×Bool)}
  (hp:opP op parts.toList=some ps) (hD:BF C nm t len ps=some r) (hK:∀val W',fj C ρ W nm r val W'->K (a.put dst val) W'):cR C.P C.co ⟨dst,.buildSlice t len parts,ty,pos,after,guard⟩ a W K:=by
 unfold BF at hD;split at hD;cases hD;rename_i ti Vz;split at hD;cases hD;rename_i e he;split at hD;cases hD;rename_i ei Vw;obtain⟨i1,d1,z1,-,Wl,-,-,-,Wi,-⟩:=(C.ty Vz).ex;obtain⟨i2,d2,z2,YP,Xe,VH,YX,Yd,-⟩:=(C.ty Vw).ex;obtain rfl:d1=.slice e:=by
  cases V6:ti.k with
  | sl e2=>
   rw[V6] at he Wi;obtain rfl:=Oi he;cases d1 with
   | slice e3=>simp only[aR,beq_iff_eq] at Wi;rw[Wi]
   | _=>simp[aR] at Wi
  | _=>rw[V6] at he;cases he
 split at hD
 ·have hpn:parts.toList=[]:=by
   cases hl:parts.toList with
   | nil=>rfl
   | cons p q=>
    rw[hl] at hp;obtain⟨i,x⟩:=p;simp only[opP] at hp;split at hp;cases Oi hp;cases hp
  exact eL (sW Wl YP hpn) (hK _ _ (vR hH.hb ((Gr.refl W).alloc _) (bg hD ⟨_,rfl⟩)))
 split at hD;rename_i b1 b2 b3;split at hD;rename_i l hl;split at hD;rename_i Vr;obtain rfl:=Oi hD;have hzd:=cq (ρ:=ρ) Yd;have b3':=Nb b3;have YK:z2.cells.size=i2.size:=(by have:=aB hzd;rw[VH,<-b3',<-this];simp);obtain⟨ls,k1,k2⟩:=lR h hp hl (rQ (n:=len) hzd);refine eL (jz (ls:=ls.toArray) Wl YP YX ?_ ?_ YK (by rw[VH];exact k2)) (hK _ _ (rS hH.hb (hf rfl) k1 (mg Vr k1) ⟨W.heap.size,Names.fR,rfl⟩));rw[VH];intro e0;rw[e0] at b1;cases b1;rw[VH];have:=L' b2;omega;cases hD;cases hD;cases hD
theorem L4{n:Nat}{l:List SV}{sz i:Nat}(hi:i<n)(hl:l.length=n*sz):PX n l sz i=chunk l sz i:=by unfold PX;split;obtain rfl:i=0:=(by omega);unfold chunk;rw[Nat.zero_mul,List.drop_zero,List.take_of_length_le (by omega)];rfl
theorem BD{r:DR}(hH:VQ C H ρ W)(h:lh op a ρ){t len:Nat}{parts:Array (Nat×Operand)}{ps:List (Nat×SV)}{dst:Option Tmp}{ty:TypeId}{pos:String}{after:Array Edge}{guard:Option (Nat×Bool)}
  (hp:opP op parts.toList=some ps) (hf:r.fr=true->ρ.v nm=none) (hD:xc C nm t len ps=some r) (hK:∀val W',fj C ρ W nm r val W'->K (a.put dst val) W'):cR C.P C.co ⟨dst,.buildSlice t len parts,ty,pos,after,guard⟩ a W K:=by
 unfold xc at hD;split at hD;cases hD;rename_i ti Vz;split at hD;cases hD;rename_i e he;split at hD;cases hD;rename_i ei Vw;obtain⟨i1,d1,z1,-,Wl,-,-,-,Wi,-⟩:=(C.ty Vz).ex;obtain⟨i2,d2,z2,YP,Xe,VH,YX,Yd,-⟩:=(C.ty Vw).ex;obtain rfl:d1=.slice e:=by
  cases V6:ti.k with
  | sl e2=>
   rw[V6] at he Wi;obtain rfl:=Oi he;cases d1 with
   | slice e3=>simp only[aR,beq_iff_eq] at Wi;rw[Wi]
   | _=>simp[aR] at Wi
  | _=>rw[V6] at he;cases he
 split at hD;rename_i b1 b2 b3;split at hD;rename_i l hl;split at hD;rename_i Vr Z2 hle;obtain rfl:=Oi hD;have hzd:=cq (ρ:=ρ) Yd;have b3':=Nb b3;have hle:=Nb hle;have YK:z2.cells.size=i2.size:=(by have:=aB hzd;rw[VH,<-b3',<-this];simp);obtain⟨ls,k1,k2⟩:=lR h hp hl (rQ (n:=len) hzd);have hlen:=aB k1;have g:Gr W (W.alloc (.cells ls.toArray e)):=(Gr.refl W).alloc _;refine eL (jz (ls:=ls.toArray) Wl YP YX ?_ ?_ YK (by rw[VH];exact k2)) (hK _ _ ?_);rw[VH];intro e0;rw[e0] at b1;cases b1;rw[VH];have:=L' b2;omega;have V0:∀i c,¬ρ.z W.heap.size i c:=λi c h=>Nat.lt_irrefl _ (iu (hH.hb.zok _ i c h).1);refine⟨ρ.fT nm ⟨nm,some ⟨W.heap.size,0,none⟩,len,len⟩,eT (l:=⟨nm,some ⟨W.heap.size,0,none⟩,len,len⟩) hH.hb (hf rfl) g (λ_ b o e0=>?_),λn sb h=>?_,?_⟩;obtain⟨rfl,-⟩:=Addr.mk.inj (Oi e0);exact⟨I' _,by show W.heap.size<(W.heap.push _).size;simp⟩;obtain⟨rfl,rfl⟩:=P' (Oi h);refine⟨_,Names.aN,rfl,rfl,I' _,λ_=>⟨W.heap.size,ls,rfl,WV.new rfl,hlen.trans hle,mg Vr k1,V0,λi hi=>⟨_,(L4 hi hle).symm▸iF ei.sz i (aE (Names.ik (hf rfl)).zo _ _ (cu _ _ Z2 k1)),?_,λk c hc=>?_⟩⟩⟩;have:i*ei.sz+ei.sz<=len*ei.sz:=(by rw[<-Nat.succ_mul];exact Uz _ hi);simp only[List.length_take,List.length_drop];omega;rw[List.getElem?_take] at hc;split at hc;rw[List.getElem?_drop] at hc;simpa using hc;cases hc;exact⟨_,Names.aN,rfl,by simp,I' _,_,rfl,λ_=>⟨_,rfl,by simp⟩⟩;cases hD;cases hD;cases hD
theorem BE{r:DR}(hH:VQ C H ρ W)(h:lh op a ρ){t len:Nat}{parts:Array (Nat×Operand)}{ps:List (Nat×SV)}{dst:Option Tmp}{ty:TypeId}{pos:String}{after:Array Edge}{guard:Option (Nat×Bool)}
  (hp:opP op parts.toList=some ps) (hD:rl C t len ps=some r) (hK:∀val W',fj C ρ W nm r val W'->K (a.put dst val) W'):cR C.P C.co ⟨dst,.buildSlice t len parts,ty,pos,after,guard⟩ a W K:=by
 unfold rl at hD;split at hD;cases hD;rename_i ti Vz;split at hD;cases hD;rename_i e he;split at hD;cases hD;rename_i ei Vw;obtain⟨i1,d1,z1,-,Wl,-,-,-,Wi,-⟩:=(C.ty Vz).ex;obtain⟨i2,d2,z2,YP,Xe,VH,YX,Yd,-⟩:=(C.ty Vw).ex;obtain rfl:d1=.slice e:=by
  cases V6:ti.k with
  | sl e2=>
   rw[V6] at he Wi;obtain rfl:=Oi he;cases d1 with
   | slice e3=>simp only[aR,beq_iff_eq] at Wi;rw[Wi]
   | _=>simp[aR] at Wi
  | _=>rw[V6] at he;cases he
 split at hD
 ·rename_i b1 b2 b3;split at hD
  ·rename_i l hl;split at hD
   ·rename_i Vr Z2 hle;obtain rfl:=Oi hD;have hzd:=cq (ρ:=ρ) Yd;have b3':=Nb b3;have hle:=Nb hle;have YK:z2.cells.size=i2.size:=(by have:=aB hzd;rw[VH,<-b3',<-this];simp);obtain⟨ls,k1,k2⟩:=lR h hp hl (rQ (n:=len) hzd);have hlen:=aB k1;have g:Gr W (W.alloc (.cells ls.toArray e)):=(Gr.refl W).alloc _;have Vo:∀(i:Nat) (c:Value),ls[i]? = some c->(W.alloc (.cells ls.toArray e)).cell? ⟨W.heap.size,i,none⟩=some c:=λi c hc=>(by rw[(WV.new rfl:WV (W.alloc (.cells ls.toArray e)) W.heap.size ls.toArray e).cell];simpa using hc);refine eL (jz (ls:=ls.toArray) Wl YP YX ?_ ?_ YK (by rw[VH];exact k2)) (hK _ _ ?_);rw[VH];intro e0;rw[e0] at b1;cases b1;rw[VH];have:=L' b2;omega;refine⟨ρ.jW λb i c=>b=W.heap.size∧ls[i]? = some c,⟨Names.bp,λ_ _ h=>.inl h,λ_ _ h=>.inl h,λb i c h=>?_,λ_ _=>rfl,g.os,g.tape,g.output,g.size,λb hb _=>Below.block g b hb,?_⟩,(λn sb h=>by cases h),⟨_,_,rfl,I' _,λi hi=>⟨W.heap.size,0,_,rfl,iF ei.sz i (aE (Names.le.zo Names.bp) _ _ (cu _ _ Z2 k1)),?_,λk c hc=>?_⟩⟩⟩;rcases h with h|h;exact .inl h;exact .inr (by rw[h.1];exact I' _)
    ·have h':=hH.hb.gr g;exact⟨h'.own,h'.low,λb i c h=>by
      rcases h with h|⟨rfl,h⟩
      exact h'.zok b i c h
      ·exact⟨Vo i c h,mg Vr k1 c (UF h)⟩,h'.grd⟩
    have:i*ei.sz+ei.sz<=len*ei.sz:=(by rw[<-Nat.succ_mul];exact Uz _ hi);simp only[List.length_take,List.length_drop];omega;refine .inr ⟨rfl,?_⟩;rw[List.getElem?_take] at hc;split at hc;rw[List.getElem?_drop] at hc;simpa using hc;cases hc
   cases hD
  cases hD
 cases hD
theorem Jg{a:Act}{c:Operand}{b:Bool}(h:a.eval c=.bool b):∀p,p∈exL c b->a.eval (.tmp p.1)=.bool p.2:=by intro p hp;cases c<;>first|(simp[exL] at hp;subst hp;exact h)|(simp[exL] at hp)
theorem Ee{r:DR}{fz:Bool}(hH:VQ C H ρ W)(hf:r.fr=true->ρ.n nm=none∧ρ.v nm=none)(h:lh op a ρ){o:Oper}(U4:wJ o.op=true->o.dst=none)(hD:D Γ fz op H nm o.op=some r)(ho:r.Ob)(hK:∀val W',fj C ρ W nm r val W'->K (a.put o.dst val) W') :
  cR C.P C.co o a W K:=by
 obtain⟨dst,oo,ty,pos,after,guard⟩:=o;have same:∀{v:SV} {y:Value},dv v=some r->den ρ v y->fj C ρ W nm r y W:=λhr hy=>dc hH.hb (bg hr hy);cases oo<;>simp only[D] at hD
 case move x=>
  split at hD;rename_i v hv;exact bs Dq (hK _ _ (same hD (h.get hv)));cases hD
 case assign x=>
  split at hD;rename_i v hv;exact bs va (hK _ _ (same hD (h.get hv)));cases hD
 case pick c x y=>
  split at hD;rename_i hc;have e:a.eval _=.bool _:=h.get hc;split at hD;rename_i v hv;exact bs (oz e) (hK _ _ (same hD (h _ _ _ hv (Jg e))));cases hD;rename_i hc;have e:a.eval _=.bool _:=h.get hc;split at hD;rename_i v hv;exact bs (oz e) (hK _ _ (same hD (h _ _ _ hv (Jg e))));cases hD;rename_i b t hc;have e:a.eval (.tmp t)=.bool _:=h.get hc;split at hD;rename_i u v hu hv;split at hD;rename_i z hz;refine bs (oz e) (hK _ _ (same hD (HU hz (λhb=>h _ _ _ hu ?_) (λhb=>h _ _ _ hv ?_))));intro p hp;obtain rfl:=List.mem_singleton.1 hp;rw[e,hb];intro p hp;obtain rfl:=List.mem_singleton.1 hp;rw[e,hb];cases hD;cases hD;cases hD
 case alloc t=>
  split at hD;rename_i ti Vz;obtain rfl:=Oi hD;obtain⟨i,d,z,hi,WQ,hs,hz,Wh,hk,-⟩:=(C.ty Vz).ex;have:=rS (t:=t) (v:=.p nm 0) hH.hb (hf rfl).1 (cq (ρ:=ρ) Wh) (lj Wh) ⟨W.heap.size,Names.fR,rfl⟩;exact eL (Jf hi hz) (hK _ _ (by simpa using this));cases hD
 case box t x=>
  split at hD;rename_i v hv;split at hD;rename_i l hl;split at hD;rename_i Vr;obtain rfl:=Oi hD;have hc:=ir hl (h.get hv);have:=rS (t:=t) (v:=.p nm 0) hH.hb (hf rfl).1 hc (mg Vr hc) ⟨W.heap.size,Names.fR,rfl⟩;exact eL Ql (hK _ _ (by simpa using this));cases hD;cases hD;cases hD
 case build s parts=>
  split at hD
  ·rename_i ti ps Vz Yx;obtain⟨i,d,z,hi,WQ,hs,hz,Wh,hk,-⟩:=(C.ty Vz).ex;split at hD
   ·rename_i fs V6;split at hD
    ·rename_i l hl U1;rw[V6] at hk;cases d with
     | struct fs'=>
      have X1:(fs'.toList.map λf=>(f.offset,f.type))=fs:=(by simpa[aR] using hk);obtain⟨ls,k1,k2⟩:=y6 h WQ Yx hl (cq (ρ:=ρ) Wh);refine bs (v:=.agg ls.toArray) (Je hi hz WQ ?_ (by simpa using k2)) (hK _ _ (same hD ⟨ls,k1,rfl⟩));intro f hf;exact Eb U1 (f.offset,f.type) (by rw[<-X1];exact List.mem_map.2 ⟨f,hf,rfl⟩)
     | _=>simp[aR] at hk
    cases hD
   ·rename_i n e V6;split at hD
    ·rename_i ei Vw;split at hD
     ·rename_i l hl;rw[V6] at hk;obtain⟨i2,d2,z2,YP,hdd2,VH,-⟩:=(C.ty Vw).ex;cases d with
      | array n' e'=>
       simp only[aR,Uk,beq_iff_eq] at hk;obtain⟨rfl,rfl⟩:=hk;obtain⟨ls,k1,k2⟩:=lR h Yx hl (cq (ρ:=ρ) Wh);exact bs (v:=.agg ls.toArray) (zg hi hz WQ YP (by rw[VH];simpa using k2)) (hK _ _ (same hD ⟨ls,k1,rfl⟩))
      | _=>simp[aR] at hk
     cases hD
    cases hD
   cases hD
  cases hD
 case load t x=>
  split at hD;rename_i v hv;obtain⟨w,hw,hr⟩:=ic hD;obtain⟨u,k2,k3⟩:=yy (dst:=dst) (ty:=ty) (pos:=pos) (after:=after) (guard:=guard) hH hw (h.get hv);exact bs k3 (hK _ _ (same hr k2));cases hD
 case store t x y=>
  obtain rfl:dst=none:=U4 rfl;split at hD;rename_i u v hu hv;obtain⟨W',k1,k2⟩:=Et (nm:=nm) (ty:=ty) (pos:=pos) (after:=after) (guard:=guard) hH hD ho (h.get hu) (h.get hv);unfold cR;rw[k1];exact hK undef W' k2;cases hD
 case fieldAddr s x k=>
  split at hD;rename_i u fo fi hu Zw;obtain⟨w,hw,hr⟩:=ic hD;obtain⟨y,k1,k2⟩:=ug (dst:=dst) (ty:=ty) (pos:=pos) (after:=after) (guard:=guard) (W:=W) Zw hw (h.get hu);exact bs k2 (hK _ _ (same hr k1));cases hD
 case field s x k=>
  split at hD
  ·rename_i l fo fi hx Zw;obtain⟨fs,f,i,d,e1,e2,e3,e4,e5,e6,e7⟩:=iC Zw;obtain⟨vs,ZH,e⟩:=h.get hx;split at hD
   ·rename_i VR;split at hD
    ·rename_i m hm;obtain⟨k1,k2⟩:=iy hm (bP fo ZH);refine bs (u9 e e1 e2 (hU e4 e5 (lL e7 VR))) (hK _ _ (same hD ⟨_,k1,?_⟩));rw[e3,e6]
     congr 1
     rw[List.length_drop] at k2;apply Array.ext';simp[List.take_drop,Nat.add_comm]
    cases hD
   rename_i VR;split at hD;rename_i c hc;obtain⟨v,hv,hdv⟩:=ef ZH hc;exact bs (u9 e e1 e2 (kB e5 (gK e7 VR).1 (gK e7 VR).2 (by simpa[e3] using hv))) (hK _ _ (same hD hdv));cases hD
  cases hD
 case binOp o t x y yt=>
  split at hD;rename_i u v hu hv;split at hD;rename_i r' VC;obtain rfl:=Oi hD;obtain⟨y',k1,k2⟩:=Nu (C:=C) (W:=W) (dst:=dst) (ty:=ty) (yt:=yt) (t:=t) (pos:=pos) (after:=after) (guard:=guard) VC ho (h.get hu) (h.get hv);exact bs k2 (hK _ _ (dc hH.hb k1));split at hD;rename_i r' VC;obtain⟨y',k1,k2⟩:=J7 (C:=C) (W:=W) (dst:=dst) (ty:=ty) (yt:=yt) (t:=t) (pos:=pos) (after:=after) (guard:=guard) VC (h.get hu) (h.get hv);exact bs k2 (hK _ _ (same hD k1));split at hD;rename_i r' VC;obtain⟨y',k1,k2⟩:=NU (C:=C) (W:=W) (dst:=dst) (ty:=ty) (yt:=yt) (t:=t) (pos:=pos) (after:=after) (guard:=guard) VC (h.get hu) (h.get hv);exact bs k2 (hK _ _ (same hD k1));obtain⟨w,hw,hr⟩:=ic hD;obtain⟨y',k1,k2⟩:=Ly (C:=C) (W:=W) (dst:=dst) (ty:=ty) (yt:=yt) (t:=t) (pos:=pos) (after:=after) (guard:=guard) hw (h.get hu) (h.get hv);exact bs k2 (hK _ _ (same hr k1));cases hD
 case makeMap t rsv=>
  cases rsv with
  | some _=>cases hD
  | none=>
   have hD:pb C nm t=some r:=hD;exact eL (v:=.map (some W.heap.size)) (w':=W.alloc (.map #[] 0)) rfl (hK _ _ (ES hH (hf (ET hD)).1 hD))
 case lookup t x i ok=>
  split at hD;rename_i sx si hx hi;obtain⟨y,k1,k2⟩:=EU hH hD ho (h.get hx) (h.get hi);exact bs (by simp only[execOp,UJ,k1,UH,UI]) (hK _ _ (dc hH.hb k2));cases hD
 case mapUpdate t x i v=>
  split at hD;rename_i sx si sv hx hi hv;obtain rfl:dst=none:=U4 rfl;obtain⟨W',k1,k2⟩:=ER hH hD ho (h.get hx) (h.get hi) (h.get hv);unfold cR;have k3:(execOp a.eval ⟨none,.mapUpdate t x i v,ty,pos,after,guard⟩).run C.P W=.ok .skip W':=(by simp only[execOp,UJ,k1,UH,UI]);rw[k3];exact hK undef W' (k2 nm);cases hD
 case makeSlice t x y=>
  split at hD;rename_i u v hu hv;obtain⟨w,W',k1,k2⟩:=LZ hH (hf (Iw hD)).2 hD ho (h.get hu) (h.get hv);refine eL (v:=w) ?_ (hK _ _ k2);simp only[execOp,UJ,k1,UH,UI];cases hD
 case unOp o t x=>
  split at hD;rename_i u hu;obtain⟨y',k1,k2⟩:=O5 (C:=C) (W:=W) (dst:=dst) (ty:=ty) (t:=t) (pos:=pos) (after:=after) (guard:=guard) hD ho (h.get hu);exact bs k2 (hK _ _ (dc hH.hb k1));cases hD
 case extract x k=>
  split at hD;rename_i l hl;split at hD;rename_i v hv;obtain⟨vs,ZH,e⟩:=h.get hl;obtain⟨u,hu,hdu⟩:=ef ZH hv;exact bs (sV e (by simpa using hu)) (hK _ _ (same hD hdu));cases hD;cases hD
 case nilCheck x=>
  split at hD;rename_i n off hx;obtain⟨b,hb,e⟩:=h.get hx;exact bs (ji e) (hK _ _ (same hD ⟨b,hb,rfl⟩));rename_i x' off hx;obtain⟨b,o,us,e,k2,k3⟩:=h.get hx;exact bs (ji e) (hK _ _ (same hD ⟨b,o,us,rfl,k2,k3⟩));rename_i m e0 sz i off hx;obtain⟨l,b,p1,po,p2,p3,p4,e⟩:=h.get hx;exact bs (ji e) (hK _ _ (same hD ⟨l,b,p1,po,p2,p3,p4,rfl⟩));rename_i m i sz j off hx;obtain⟨l,b,p1,p2,p3,p4,e⟩:=h.get hx;exact bs (ji e) (hK _ _ (same hD ⟨l,b,p1,p2,p3,p4,rfl⟩));obtain rfl:=Oi hD;exact False.elim ho;cases hD
 case makeFunc fn first captured=>
  split at hD;rename_i x y hx hy;refine bs qo (hK _ _ (same hD ?_));have h1:=gJ h hx;have h2:=gJ h hy;exact⟨_,_,h1,h2,rfl⟩;cases hD
 case call c=>exact J5 hH (λh=>(hf h).2) h hD ho hK
 case convert src dst' x=>
  split at hD;rename_i u hu;obtain⟨y',k1,k2⟩:=JC (C:=C) (W:=W) (dst:=dst) (ty:=ty) (pos:=pos) (after:=after) (guard:=guard) hD ho (h.get hu);exact bs k2 (hK _ _ (dc hH.hb k1));cases hD
 case buildSlice t len parts=>
  split at hD;rename_i ps Yx;split at hD;split at hD;exact BD hH h Yx (λh=>(hf h).2) hD hK;exact FB hH (λh=>(hf h).1) h Yx hD hK;exact BE hH h Yx hD hK;cases hD
 case indexAddr t x i=>
  split at hD;rename_i u v hu hv;obtain⟨y',k1,k2⟩:=Jl (dst:=dst) (ty:=ty) (pos:=pos) (after:=after) (guard:=guard) hH hD ho (h.get hu) (h.get hv);exact bs k2 (hK _ _ (dc hH.hb k1));cases hD
 case index t x i=>
  split at hD;rename_i u v hu hv;have lit:od (sF C t u v)=some r->cR C.P C.co ⟨dst,.index t x i,ty,pos,after,guard⟩ a W K:=λVC=>(by obtain⟨w,hw,hr⟩:=ic VC;obtain⟨y',k1,k2⟩:=E2 (W:=W) (dst:=dst) (ty:=ty) (pos:=pos) (after:=after) (guard:=guard) hw (h.get hu) (h.get hv);exact bs k2 (hK _ _ (same hr k1)));split at hD;exact lit hD;split at hD;rename_i r' VC;obtain rfl:=Oi hD;obtain⟨y',k1,k2⟩:=E1 (W:=W) (dst:=dst) (ty:=ty) (pos:=pos) (after:=after) (guard:=guard) VC ho (h.get hu) (h.get hv);exact bs k2 (hK _ _ (dc hH.hb k1));exact lit hD;cases hD
 case slice t x low high max=>
  split at hD;rename_i u lo hi mx hu h1 h2 h3;obtain⟨y',k1,k2⟩:=Ew (W:=W) (dst:=dst) (ty:=ty) (pos:=pos) (after:=after) (guard:=guard) h hD ho (h.get hu) h1 h2 h3;exact bs k2 (hK _ _ (dc hH.hb k1));cases hD
 all_goals cases hD
theorem iA:∀{l:List SV} {vs:List Value},yc l=true->aj ρ l vs->∀c∈vs,yV c
 | [],vs,_,hd=>by obtain rfl:=cd hd;exact λc h=>by cases h
 | x::r,vs,h,hd=>by obtain⟨u,us,rfl,d1,d2⟩:=aJ hd;simp only[yc] at h;intro c hc;split at h;rename_i p hp;obtain⟨k,n⟩:=p;rcases UB.1 hc with rfl|hc;rw[SV.int?_den hp d1];trivial;exact iA h d2 c hc;split at h;rename_i b hb;rcases UB.1 hc with rfl|hc;rw[SV.bool?_den hb d1];trivial;exact iA h d2 c hc;cases h
theorem FG{m:Bool}{o:BinOp}{u v:SV}{r:DR}(h:J8 m o u v=some r):∃k n k' n',u.int? = some (k,n)∧v.int? = some (k',n'):=by
 unfold J8 Nw at h;split at h;all_goals
  split at h;rename_i k p k' q hp hq;exact⟨k,p,k',q,hp,hq⟩;cases h
theorem FK{o:BinOp}{t:TypeId}{u v w:SV}{x y:Value}(h:Kk C o t u v=some w)(hx:den ρ u x)(hy:den ρ v y):(o=.eql∨o=.neq)∧qk x∧qk y:=by unfold Kk at h;split at h;split at h;split at h;rename_i heq VR;obtain⟨us,Zh,rfl⟩:=hx;obtain⟨vs,ZH,rfl⟩:=hy;exact⟨.inl rfl,λc hc=>iA (fF VR).1 Zh c (by simpa using hc),λc hc=>iA (fF (fF VR).2).1 ZH c (by simpa using hc)⟩;cases h;cases h;split at h;split at h;rename_i heq VR;obtain⟨us,Zh,rfl⟩:=hx;obtain⟨vs,ZH,rfl⟩:=hy;exact⟨.inr rfl,λc hc=>iA (fF VR).1 Zh c (by simpa using hc),λc hc=>iA (fF (fF VR).2).1 ZH c (by simpa using hc)⟩;cases h;cases h;cases h
theorem Tf{r:DR}{fz:Bool}(h:lh op a ρ){o:Oper}(hD:D Γ fz op H nm o.op=some r):NS C.P (execOp a.eval o):=by
 obtain⟨dst,oo,ty,pos,after,guard⟩:=o;cases oo
 case move=>trivial
 case assign=>trivial
 case pick=>exact aa (bD _) λ_=>trivial
 case alloc=>exact aa (yj _) λ_=>trivial
 case box=>exact aa (PD _ _) λ_=>trivial
 case build=>exact aa (Il _ _) λ_=>trivial
 case buildSlice=>exact aa (tZ _ _ _) λ_=>trivial
 case load=>exact aa (o8 _ _) λ_=>trivial
 case store=>exact aa (kG _ _ _) λ_=>trivial
 case extract=>exact aa (sc _ _) λ_=>trivial
 case unOp=>exact aa (Ih _ _) λ_=>trivial
 case makeFunc=>trivial
 case makeSlice=>exact aa (wb _ _ _) λ_=>trivial
 case slice=>exact aa (A9 _ _ _ _ _) λ_=>trivial
 case field=>exact aa (Ik _ _ _) λ_=>trivial
 case indexAddr=>exact aa (rX _ _ _) λ_=>trivial
 case index=>exact aa (yh _ _ _) λ_=>trivial
 case makeMap t rs=>
  cases rs with
  | some _=>cases hD
  | none=>exact aa (qe t) λ_=>trivial
 case nilCheck x=>
  simp only[D] at hD;have key:(∃p,a.eval x=.pointer (some p))->NS C.P (execOp a.eval ⟨dst,.nilCheck x,ty,pos,after,guard⟩):=λ⟨p,e⟩=>(by simp only[execOp,e];trivial);split at hD;rename_i hx;obtain⟨b,-,e⟩:=h.get hx;exact key ⟨_,e⟩;rename_i hx;obtain⟨b,o,us,e,-⟩:=h.get hx;exact key ⟨_,e⟩;rename_i hx;obtain⟨l,b,p1,po,p2,p3,p4,e⟩:=h.get hx;exact key ⟨_,e⟩;rename_i hx;obtain⟨l,b,p1,p2,p3,p4,e⟩:=h.get hx;exact key ⟨_,e⟩;rename_i hx;have e:a.eval x=.pointer none:=h.get hx;simp only[execOp,e];trivial;cases hD
 case fieldAddr s x k=>
  simp only[D] at hD;split at hD;rename_i u fo fi hu Zw;obtain⟨w,hw,-⟩:=ic hD;obtain⟨fs,f,i,d,e1,e2,e3,e4,e5,e6,e7⟩:=iC Zw;unfold kQ at hw;split at hw;cases hw;rename_i m hm;exact aa (sa e1 e2 e4 (by omega)) λ_=>trivial;cases hD
 case convert src dst' x=>
  simp only[D] at hD;split at hD;rename_i u hu;unfold DG at hD;split at hD;rename_i ti hs Vz;split at hD;rename_i k hk;split at hD;rename_i k' n hn;have e:=SV.int?_den hn (h.get hu);obtain⟨i,d,z,hi,WQ,Wp,hz,Wh,Xl,-⟩:=(C.ty Vz).ex;rw[hk] at Xl;have hd:∃k0,d=.int k0:=(by cases d<;>first|exact⟨_,rfl⟩|cases Xl);obtain⟨k0,rfl⟩:=hd;refine aa ?_ λ_=>trivial;rw[e];exact sh WQ;cases hD;cases hD;cases hD;cases hD
 case binOp o t x y yt=>
  simp only[D] at hD;have key:NS C.P (binOp o t (a.eval x) (a.eval y))->NS C.P (execOp a.eval ⟨dst,.binOp o t x y yt,ty,pos,after,guard⟩):=λk=>aa (aa (nF _ _ _ _ _ _) λ_=>k) λ_=>trivial;split at hD;rename_i u v hu hv;split at hD;rename_i r' VC;obtain⟨k,n,k',n',e1,e2⟩:=FG VC;refine key ?_;rw[SV.int?_den e1 (h.get hu),SV.int?_den e2 (h.get hv)];exact pa _ _ _ _ _ _;split at hD;rename_i r' VC;unfold D5 at VC;split at VC;rename_i e1 e2 _ _;refine key ?_;rw[SV.bool?_den e1 (h.get hu),SV.bool?_den e2 (h.get hv)];exact nG (.inl rfl) trivial trivial;rename_i e1 e2 _ _;refine key ?_;rw[SV.bool?_den e1 (h.get hu),SV.bool?_den e2 (h.get hv)];exact nG (.inr rfl) trivial trivial;cases VC;split at hD;rename_i r' VC;obtain⟨e1,e2,e3⟩:=FK VC (h.get hu) (h.get hv);exact key (nG e1 e2 e3);obtain⟨w,hw,-⟩:=ic hD;unfold Lz at hw;split at hw;rename_i b ti hb hn Vz;refine key ?_;rw[uS hn (h.get hv)];obtain⟨p,e1,-⟩:=uH hb (h.get hu);rw[e1];split at hw;exact aa (og _ _ _) λ_=>trivial;exact aa (og _ _ _) λ_=>trivial;cases hw;cases hw;cases hD
 case lookup t x i ok=>
  simp only[D] at hD;split at hD;rename_i sx si hx hi;unfold wx at hD;split at hD;split at hD;rename_i k' q h1 hq;refine aa ?_ λ_=>trivial;rw[SV.key?_den hq (h.get hi)];exact Ba _ _ (yF _ _) _;cases hD;cases hD;cases hD
 case mapUpdate t x i v=>
  simp only[D] at hD;split at hD;rename_i sx si sv hx hi hv;unfold wv at hD;split at hD;split at hD;rename_i k' q h1 hq;refine aa ?_ λ_=>trivial;rw[SV.key?_den hq (h.get hi)];exact tY _ _ (yF _ _) _;cases hD;cases hD;cases hD
 case call c=>
  simp only[D] at hD;unfold DZ at hD;have blt:∀b,c.callee=.builtin b->(∀(ats:Array TypeId) (t:TypeId) (cs:Array Bool) (args:Array Value),NS C.P (builtin b ats t cs args))->NS C.P (execOp a.eval ⟨dst,.call c,ty,pos,after,guard⟩):=λb e k=>(by simp only[execOp,resolve,e];exact k _ _ _ _);split at hD
  ·rename_i x WI;split at hD
   ·rename_i sf hsf;split at hD
    ·rename_i g first captured args hg U7
     split at hD;rename_i con hcon;obtain rfl:=wO hcon;obtain⟨fv,cv,XI,-⟩:=mE h hsf hg U7;exact oi WI XI con.ns;cases hD
    cases hD
   cases hD
  rename_i e;exact blt _ e λ_ _ _ _=>aa (Ij _ _ _) λ_=>trivial;rename_i e;exact blt _ e λ_ _ _ _=>aa (Py _ _ _) λ_=>trivial;rename_i e;exact blt _ e λ_ _ _ _=>aa (Px _ _ _) λ_=>trivial;rename_i e;exact blt _ e λ_ _ _ _=>aa (EM _ _ _) λ_=>trivial;rename_i e;exact blt _ e λ_ _ _ _=>aa (LS _ _ _) λ_=>trivial;cases hD
 all_goals cases hD
end
end Go.Proofs.YtgigkennhdolpaaGreatDoor
