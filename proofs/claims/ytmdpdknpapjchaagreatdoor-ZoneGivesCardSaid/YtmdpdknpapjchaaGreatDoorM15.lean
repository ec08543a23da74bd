/- A symbolic executor with lists. -/
import Derived.Test.YtmdpdknpapjchaaGreatDoorM14
set_option linter.all false
namespace Go.Proofs.YtmdpdknpapjchaaGreatDoor
open Go.RowKit
variable {a:Act}{parts:Array (Nat×Operand)}{after:Array Edge}{ag fz:Bool}{c:Call}{r:DR}{l:List SV}{ρ:Names}{j len m n off sz:Nat}{x:Operand}{guard:Option (Nat×Bool)}{dst:Option Tmp}{P:Program}{y:SV}{pos:String}{t ty:TypeId}{ui ux v:Value}
def ym:Op->Bool
 | .store ..=>true
 | .mapUpdate ..=>true
 | _=>false
section
variable {PP:Program}{C:Cx PP}{Γ:List (XR C)}{op:OpF}{W W':World}{H:aU}{nm:Nat}{K:Act->World->Prop}{Q:Exit->Act->World->Prop}
theorem pk{y:Operand}{b:Nat}{bt:TypeId}{u:List Value}{ti:TI}(YD:look C.T t=some ti)(e:a.eval x=.pointer (some ⟨b,off,none⟩))(hb:Zq W b u.toArray bt)(hl:(a.eval y).cells.toList.length=ti.sz)(hf:off+ti.sz<=u.length)(h1:∀c∈(a.eval y).cells.toList,c.oneCell'=true) :
  (execOp a.eval ⟨none,.store t x y,ty,pos,after,guard⟩).run C.P W=.ok .skip (W.setRow b (u.take off++(a.eval y).cells.toList++u.drop (off+ti.sz)).toArray):=by
 obtain⟨i,d,z,hi,ZI,Y8,hz,Y2,hk,-⟩:=(C.ty YD).ex;have XW:¬((a.eval y).cells.size≠i.size):=by rw[Y8];simpa using hl
 have Ya:=run_storeCells_at (P:=C.P) b off bt (a.eval y).cells.toList 0 u.toArray W hb (by simp at hl ⊢;omega) h1;simp only[execOp,e,Instr.storeAt,Instr.sureAddr,storeVar,sizeOf,typeInfo,Xz,Xy,run_program,Xx,hi,Xk XW,Ya];simp only[Nat.add_zero,hl]
theorem fF.map{q:LV}{f f':Nat->List SV}(h:fF ρ W q sz f t)(hf:∀j,j<q.N->∀us,au ρ.zo (f j) us->au ρ.zo (f' j) us):fF ρ W q sz f' t:=
 ⟨h.1,λhc=>let ⟨b,u,k1,k2,k3,k4,k5,k6⟩:=h.2 hc;⟨b,u,k1,k2,k3,k4,k5,λi hi=>let ⟨us,q1,q2,q3⟩:=k6 i hi;⟨us,hf i hi us q1,q2,q3⟩⟩⟩
theorem GH(hH:YH C H ρ W){y:Operand}{u v:SV}(hD:Cm C H t u v=some r)(ho:r.Ob)(hx:den ρ u (a.eval x))(hy:den ρ v (a.eval y)) :
  ∃W',(execOp a.eval ⟨none,.store t x y,ty,pos,after,guard⟩).run C.P W=.ok .skip W'∧eB C ρ W nm r undef W':=by
 unfold Cm at hD;split at hD
 ·rename_i ti l YD hl;have hc:=iZ hl hy;have hlen:=aB hc;split at hD
  ·rename_i b1 b2;have b1:=Nb b1;have Yw:=m3 b2 hc;split at hD;rename_i n off;split at hD;rename_i cs bt ZS;split at hD;rename_i b3;have b3:=F4 b3;split at hD;rename_i cs' Z5;obtain rfl:=Oi hD;obtain⟨b,hb,e⟩:=hx;obtain⟨b',us,k1,k2,k3,k4,k5⟩:=hH.blk n _ (lE ZS);rw[hb] at k1;obtain rfl:=Oi k1;have hlen2:=aB k2;refine⟨_,pk YD e k3 (by omega) (by omega) Yw,ρ,jR hH.hb (.inl hb) k5,λn' Yu h'=>?_,rfl⟩;obtain⟨rfl,rfl⟩:=F7 (Oi h');refine⟨b,_,hb,?_,setRow_heap W b _ _ _ _ k3,λc YU=>?_,k5⟩;rw[dG Z5,<-b1];exact bg (bg (dt _ k2) hc) (bS _ k2);rcases Xr.1 YU with YU|YU;rcases Xr.1 YU with YU|YU;exact k4 c (List.mem_of_mem_take YU);exact Yw c YU;exact k4 c (List.mem_of_mem_drop YU);cases hD;cases hD;cases hD
   ·rename_i m e sz i off;split at hD
    ·rename_i N h bt ZS hpu;split at hD
     ·rename_i c hcl;split at hD
      ·rename_i b3 b4;have b3:=Nb b3;have b4:=F4 b4;obtain rfl:=Oi hD;obtain⟨lv,b,p1,po,p2,p3,p4,ee⟩:=hx;obtain⟨lv',q1,q2,q3,q4,q5⟩:=hH.blk m _ (lD ZS);rw[p1] at q1;obtain rfl:=Oi q1;obtain⟨b',u,s1,s2,s3,s4,s5,s6⟩:=q5 (by omega);rw[p4] at s1;obtain rfl:b=b':=(by injection s1 with s1;injection s1);have YZ:bM ρ m b:=.inr (.inl ⟨e,lv,0,p1,q2,by omega,p4⟩);have hmul:i*sz+sz<=lv.cap*sz:=(by rw[<-Nat.succ_mul];exact Xo _ (by omega));have hti2:ti.sz=l.length:=b1.symm;have hl1:(u.take (i*sz+off)).length=i*sz+off:=(by rw[List.length_take];omega);refine⟨_,pk YD ee s2 (by omega) (by omega) Yw,ρ,jR hH.hb YZ s5,λn' Yu h'=>?_,rfl⟩;obtain⟨rfl,rfl⟩:=F7 (Oi h');refine⟨lv,p1,q2,q3,q4,λ_=>⟨b,_,p4,setRow_heap W b _ _ _ _ s2,?_,λc YU=>?_,s5,λj hj=>?_⟩⟩;simp only[List.length_append,List.length_take,List.length_drop];omega;rcases Xr.1 YU with YU|YU;rcases Xr.1 YU with YU|YU;exact s4 c (List.mem_of_mem_take YU);exact Yw c YU;exact s4 c (List.mem_of_mem_drop YU);obtain⟨us,k1,k2,k3⟩:=s6 j hj;have hget:∀q:Nat,(u.take (i*sz+off)++(a.eval y).cells.toList++u.drop (i*sz+off+ti.sz))[q]? = if q<i*sz+off then u[q]? else if q<i*sz+off+ti.sz then(a.eval y).cells.toList[q-(i*sz+off)]? else u[q]?:=by
        intro q;split;rw[List.append_assoc,F5 (by omega),Xn (by omega)];split;rw[List.append_assoc,F6 (by omega),hl1,F5 (by omega)];rw[List.append_assoc,F6 (by omega),hl1,F6 (by omega),List.getElem?_drop]
        congr 1
        omega
       cases hji:Nat.beq j i with
       | true=>
        have:=Nb hji;subst this;have ZN:au ρ.zo c (us.take off++(a.eval y).cells.toList++us.drop (off+l.length)):=(by rw[dG hcl];exact bg (bg (dt _ k1) (cJ _ _ hpu hc)) (bS _ k1));refine⟨_,by dsimp only;rw[hji];exact eQ _ _ _ ZN,by rw[<-b3];exact aB ZN,λq cc hq=>?_⟩;have X0:(us.take off).length=off:=(by rw[List.length_take];omega);rw[hget];by_cases h1:q<off;rw[Xl (by omega)];rw[List.append_assoc,F5 (by omega),Xn h1] at hq;exact k3 q cc hq;rw[Xk (by omega)];rw[List.append_assoc,F6 (by omega),X0] at hq;by_cases h2:q<off+l.length;rw[Xl (by omega)];rw[F5 (by omega)] at hq;rw[show j*sz+q-(j*sz+off)=q-off by omega];exact hq;rw[Xk (by omega)];rw[F6 (by omega),List.getElem?_drop] at hq;rw[show off+l.length+(q-off-(a.eval y).cells.toList.length)=q by omega] at hq;exact k3 q cc hq
       | false=>
        have XW:j≠i:=(by rintro rfl;rw[Xv] at hji;cases hji);refine⟨us,by dsimp only;rw[hji];exact bZ _ _ _ (ho j hj) k1,k2,λq cc hq=>?_⟩;have hql:q<sz:=(by rw[<-k2];exact(F3.1 hq).1);rw[hget];rcases Nat.lt_or_gt_of_ne XW with h1|h1;have:j*sz+sz<=i*sz:=(by rw[<-Nat.succ_mul];exact Xo _ h1);rw[Xl (by omega)];exact k3 q cc hq;have:i*sz+sz<=j*sz:=(by rw[<-Nat.succ_mul];exact Xo _ h1);rw[Xk (by omega),Xk (by omega)];exact k3 q cc hq
      cases hD
     cases hD
    cases hD
   ·rename_i m i sz j off;split at hD
    ·rename_i e esz N h p g tk bt ZS hpu;split at hD
     ·rename_i c hcl;split at hD
      ·rename_i b3 b4;have b3:=Nb b3;have b4:=F4 b4;obtain rfl:=Oi hD;have ho:∀a,a<N->∀b,b<(g a).1->dD c ((g a).2 b):=ho;obtain⟨q,b,p1,p2,p3,p4,ee⟩:=hx;obtain⟨lv,K⟩:=hH.blk m _ (pe ZS);have hi:i<N:=Nat.lt_of_not_le λh=>(by rw[K.no i h] at p1;cases p1);obtain⟨q',r0,r1,r2,r3⟩:=K.kid i hi;rw[p1] at r0;obtain rfl:=Oi r0;obtain⟨b',u,s1,s2,s3,s4,s5,s6⟩:=r3 (by omega);rw[p4] at s1;obtain rfl:b=b':=(by injection s1 with s1;injection s1);have YZ:bM ρ m b:=.inr (.inr ⟨i,q,0,p1,by omega,p4⟩);have hmul:j*sz+sz<=q.cap*sz:=(by rw[<-Nat.succ_mul];exact Xo _ (by omega));have hti2:ti.sz=l.length:=b1.symm;have hl1:(u.take (j*sz+off)).length=j*sz+off:=(by rw[List.length_take];omega);refine⟨_,pk YD ee s2 (by omega) (by omega) Yw,ρ,jR hH.hb YZ s5,λn' Yu h'=>?_,rfl⟩;obtain⟨rfl,rfl⟩:=F7 (Oi h');refine⟨lv,K.hv,K.ho,K.hN,K.hle,λhc=>?_,λi' YT=>?_,K.no,K.ne⟩;obtain⟨bb,cur,t1,t2,t3,t4,t5,t6,t7,t8⟩:=K.row hc;have XW:bb≠b:=λe=>t8 i q b p1 (by omega) p4 e.symm;exact⟨bb,cur,t1,(eU XW).trans t2,t3,t4,t5,t6,t7,t8⟩;obtain⟨q',w1,w2,w3⟩:=K.kid i' YT;refine⟨q',w1,w2,?_⟩;cases hii:Nat.beq i' i with
       | false=>
        have XW:i'≠i:=(by rintro rfl;rw[Xv] at hii;cases hii);have:=w3.keep (XM:=ρ) (W':=W.setRow b (u.take (j*sz+off)++(a.eval y).cells.toList++u.drop (j*sz+off+ti.sz)).toArray) rfl λb2 h1 h2=>eU λe2=>XW (K.ne i' i q' q b2 w1 p1 h1 (by omega) h2 (by rw[e2];exact p4));refine this.map λk hk us hus=>?_;exact bZ _ _ _ (ho i' YT k (by omega)) hus
       | true=>
       have:=Nb hii;subst this;rw[p1] at w1;obtain rfl:=Oi w1;refine⟨p3,λ_=>⟨b,_,p4,setRow_heap W b _ _ _ _ s2,?_,λc YU=>?_,s5,λk hk=>?_⟩⟩;simp only[List.length_append,List.length_take,List.length_drop];omega;rcases Xr.1 YU with YU|YU;rcases Xr.1 YU with YU|YU;exact s4 c (List.mem_of_mem_take YU);exact Yw c YU;exact s4 c (List.mem_of_mem_drop YU);obtain⟨us,k1,k2,k3⟩:=s6 k hk;have hget:∀q:Nat,(u.take (j*sz+off)++(a.eval y).cells.toList++u.drop (j*sz+off+ti.sz))[q]? = if q<j*sz+off then u[q]? else if q<j*sz+off+ti.sz then(a.eval y).cells.toList[q-(j*sz+off)]? else u[q]?:=by
        intro q;split;rw[List.append_assoc,F5 (by omega),Xn (by omega)];split;rw[List.append_assoc,F6 (by omega),hl1,F5 (by omega)];rw[List.append_assoc,F6 (by omega),hl1,F6 (by omega),List.getElem?_drop]
        congr 1
        omega
       cases hji:Nat.beq k j with
       | true=>
        have:=Nb hji;subst this;have ZN:au ρ.zo c (us.take off++(a.eval y).cells.toList++us.drop (off+l.length)):=(by rw[dG hcl];exact bg (bg (dt _ k1) (cJ _ _ hpu hc)) (bS _ k1));refine⟨_,by dsimp only;rw[hji];exact eQ _ _ _ ZN,by rw[<-b3];exact aB ZN,λq cc hq=>?_⟩;have X0:(us.take off).length=off:=(by rw[List.length_take];omega);rw[hget];by_cases h1:q<off;rw[Xl (by omega)];rw[List.append_assoc,F5 (by omega),Xn h1] at hq;exact k3 q cc hq;rw[Xk (by omega)];rw[List.append_assoc,F6 (by omega),X0] at hq;by_cases h2:q<off+l.length;rw[Xl (by omega)];rw[F5 (by omega)] at hq;rw[show k*sz+q-(k*sz+off)=q-off by omega];exact hq;rw[Xk (by omega)];rw[F6 (by omega),List.getElem?_drop] at hq;rw[show off+l.length+(q-off-(a.eval y).cells.toList.length)=q by omega] at hq;exact k3 q cc hq
       | false=>
        have XW:k≠j:=(by rintro rfl;rw[Xv] at hji;cases hji);refine⟨us,by dsimp only;rw[hji];exact bZ _ _ _ (ho i' YT k (by omega)) k1,k2,λq cc hq=>?_⟩;have hql:q<sz:=(by rw[<-k2];exact(F3.1 hq).1);rw[hget];rcases Nat.lt_or_gt_of_ne XW with h1|h1;have:k*sz+sz<=j*sz:=(by rw[<-Nat.succ_mul];exact Xo _ h1);rw[Xl (by omega)];exact k3 q cc hq;have:j*sz+sz<=k*sz:=(by rw[<-Nat.succ_mul];exact Xo _ h1);rw[Xk (by omega),Xk (by omega)];exact k3 q cc hq
      cases hD
     cases hD
    cases hD
   cases hD
  cases hD
 cases hD
theorem vY{z:Array Value}{i q:Nat}(hi:i<n)(hq:q<z.size):(Builtin.zeroCells z n).toList[i*z.size+q]? = z[q]?:=by
 have h1:i*z.size+q<n*z.size:=by have:i*z.size+z.size<=n*z.size:=(by rw[<-Nat.succ_mul];exact Xo _ hi);omega
 have h2:(i*z.size+q)%z.size=q:=by rw[Nat.mul_comm,Nat.mul_add_mod,Nat.mod_eq_of_lt hq]
 simp[Builtin.zeroCells,h1,h2,hq]
theorem ZB.I3{XM:Names}{fr:Bool}(e:ZB C ρ W nm none fr XM W')(hf:fr=false):ZB C ρ W nm (some m) fr XM W':=by subst hf;exact⟨e.le,λn b h=>(e.nn n b h).imp id λh=>P' h.2.1 (by simp),λep l h=>(e.nv ep l h).imp id λh=>P' h.2.1 (by simp),e.nz,e.nk,e.os,e.tape,e.output,e.size,λb hb _=>e.block b hb (λn hn=>by cases hn),e.hb⟩
def copyV(g:Nat->Value)(n:Nat):Nat->Nat->List Value->List Value
 | _,0,cur=>cur
 | _,_+1,[]=>[]
 | i,r+1,c::cur=>(if i<n then g i else c)::copyV g n (i+1) r cur
theorem qI{f:Nat->List SV}{g:Nat->Value}{n:Nat}(hg:∀j,j<n->au ρ (f j) [g j]):∀(r i:Nat) (cs:List SV) (cur:List Value),FG f i r cs->au ρ cs cur->au ρ (xd f n i r cs) (copyV g n i r cur)
 | 0,i,cs,cur,_,h=>h
 | r+1,i,[],cur,_,h=>by obtain rfl:=bX h;exact rfl
 | r+1,i,c::cs,cur,ha,h=>by obtain⟨x,xs,rfl,h1,h2⟩:=aF h;have ih:=qI hg r (i+1) cs xs ha.2 h2;show au ρ (jnL (Nat.blt i n) (f i) [c]++_) (_::_);by_cases hi:i<n;rw[Xl hi,show Nat.blt i n=true from Nat.ble_eq_true_of_le hi];exact bg (eQ _ _ _ (hg i hi)) ih;have:Nat.blt i n=false:=(by cases e:Nat.blt i n;rfl;exact P' (F4 e) (by omega));rw[Xk hi,this];exact bg (bZ _ _ _ ha.1 (aN h1 rfl)) ih
theorem xc{g:Nat->Value}{n:Nat} : ∀(r i:Nat) (cur:List Value) (t:Nat),(copyV g n i r cur)[t]? = if t<r∧i+t<n∧t<cur.length then some (g (i+t)) else cur[t]?
 | 0,i,cur,t=>by simp[copyV]
 | r+1,i,[],t=>by simp[copyV]
 | r+1,i,c::cur,0=>by simp only[copyV,List.getElem?_cons_zero,List.length_cons,Nat.add_zero];by_cases h:i<n;rw[Xl h,Xl ⟨by omega,h,by omega⟩];rw[Xk h,Xk (by omega)]
 | r+1,i,c::cur,t+1=>by simp only[copyV,List.getElem?_cons_succ,List.length_cons];rw[xc r (i+1) cur t];by_cases h:t<r∧i+1+t<n∧t<cur.length;rw[Xl h,Xl (by omega),show i+1+t=i+(t+1) by omega];rw[Xk h,Xk (by omega)]
theorem Bi{g:Nat->Value}{r:Nat}{cur:List Value}(h:r<=cur.length):copyV g n 0 r cur=(List.range (min n r)).map g++cur.drop (min n r):=by apply List.ext_getElem?;intro t;rw[xc];simp only[B'];by_cases ht:t<min n r;rw[Xl (by omega),F5 (by simpa using ht)];simp[ht];rw[Xk (by omega),F6 (by simp;omega)];simp only[List.length_map,List.length_range,List.getElem?_drop];rw[show min n r+(t-min n r)=t by omega]
theorem PR(hH:YH C H ρ W){t2:TypeId}{x:SV}{u:Value}(hD:LX C H t x y=some r)(ho:r.Ob)(hx:den ρ x u)(hy:den ρ y v) :
  ∃w W',(Builtin.copy_ #[t,t2] ty #[u,v]).run C.P W=.ok w W'∧eB C ρ W nm r w W':=by
 unfold LX at hD;split at hD;cases hD;rename_i e ei Yt;obtain⟨i,z,ht,hi,hs,hby,hz,Y2⟩:=bV Yt;split at hD;cases hD;rename_i b1;have b1:=Nb b1;have hs1:(C.P.info? e).map (·.size)=some 1:=by rw[hi];show some i.size=some 1;rw[hs,b1]
 split at hD;obtain⟨b,hb,rfl⟩:=hx;obtain rfl:v=_:=hy;exact⟨_,W,run_copy_nil C.P W t t2 ty e _ _ _ ht (by rw[hs1];rfl),dj hH.hb (bp hD rfl)⟩;rename_i m sz off len cap m' Yb YW len' cap';split at hD;rename_i cs bt cs' bt' b2 b3 hl hl';obtain⟨b,hb,rfl⟩:=hx;obtain⟨b',Zh,rfl⟩:=hy;obtain⟨b'',us,k1,k2,k3,k4,k5⟩:=hH.blk m _ (lE hl);rw[hb] at k1;obtain rfl:=Oi k1;obtain⟨b3',vs,j1,j2,j3,j4,j5⟩:=hH.blk m' _ (lE hl');rw[Zh] at j1;obtain rfl:=Oi j1;split at hD;rename_i l hll;have el:=dG hll;split at hD;rename_i c2 b4 b5 hc2;have b4:=Nb b4;have b5:=F4 b5;have ec:=dG hc2;obtain rfl:=Oi hD;have hd:au ρ l ((vs.drop YW).take (min len' len)):=(by rw[el];exact dt _ (bS _ j2));have hlen:=aB hd;have hlen2:=aB k2;have hn:((vs.drop YW).take (min len' len)).length=Nat.min len' len:=(by rw[hlen,b4]);have hsrc:∀(j:Nat) (c:Value),((vs.drop YW).take (min len' len))[j]? = some c->W.cell? ((⟨b',YW,none⟩:Addr).add j)=some c:=λj c hc=>(by have hjl:j<min len' len:=(by have:=(F3.1 hc).1;omega);rw[Xn hjl,List.getElem?_drop] at hc;rw[bO];show W.cell? ⟨b',YW+j,none⟩=some c;have j3':W.heap[b']? = some (.cells vs.toArray bt' (0,0)):=j3;have hjv:=(F3.1 hc).1;simp only[World.cell?,j3'];simpa[hjv] using hc);have h1:∀c∈(vs.drop YW).take (min len' len),c.oneCell'=true:=λc hc=>j4 c (List.mem_of_mem_drop (List.mem_of_mem_take hc));have XV:=run_copy_row C.P W t t2 ty e b off len cap ⟨b',YW,none⟩ len' cap' us.toArray bt _ ht hs1 k3 hn hsrc (by simp;omega) h1;refine⟨_,_,XV,ρ,jR hH.hb (.inl hb) k5,λn' Yu h'=>?_,?_⟩;obtain⟨rfl,rfl⟩:=F7 (Oi h');refine⟨b,_,hb,?_,setRow_heap W b _ _ _ _ k3,λc YU=>?_,k5⟩;rw[ec,<-hlen];exact bg (bg (dt _ k2) hd) (bS _ k2);rcases Xr.1 YU with YU|YU;rcases Xr.1 YU with YU|YU;exact k4 c (by simpa using List.mem_of_mem_take YU);exact h1 c YU;exact k4 c (by simpa using List.mem_of_mem_drop YU);show goInt _=.int .i64 (l.length:Nat);rw[<-hlen];rfl;cases hD;cases hD;cases hD
 ·rename_i m sz off len cap Yb n f;split at hD
  ·rename_i cs bt b2 b3 hl;have b3:=Nb b3;subst b3;split at hD
   ·rename_i c2 b5 hc2;have b5:=F4 b5;have ec:=dG hc2;obtain rfl:=Oi hD;have ha:FG f 0 len (cs.drop off):=ho;obtain⟨b,hb,rfl⟩:=hx;obtain⟨b'',us,k1,k2,k3,k4,k5⟩:=hH.blk m _ (lE hl);rw[hb] at k1;obtain rfl:=Oi k1;have hlen2:=aB k2;obtain⟨a,scap,rfl,hn,hel⟩:=hy;have hres:den ρ (.v (.int .i64 (min n len:Nat))) (goInt (min n len:Nat)):=rfl;rcases Nat.eq_zero_or_pos (min n len) with h0|h0
    ·have hV:copyV (λ_=>undef) 0 0 len (us.drop off)=us.drop off:=(by rw[Bi (by simp;omega)];simp);have hL:au ρ (xd f 0 0 len (cs.drop off)) (us.drop off):=by
      have:=qI (ρ:=ρ) (f:=f) (g:=λ_=>undef) (n:=0) (λj h=>P' h (F1 j)) len 0 _ _ ha (bS off k2)
      rwa [hV] at this
     have hn0:len=0∨n=0:=(by omega);have hcL:xd f n 0 len (cs.drop off)=xd f 0 0 len (cs.drop off):=(by rcases hn0 with h|h;subst h;rfl;subst h;rfl);refine⟨_,W,run_copy_none W t t2 ty e _ _ _ _ _ _ ht hs1 h0,ρ,(ZB.rm hH.hb (Gr.refl W)).I3 rfl,λn' Yu h'=>?_,?_⟩
     ·obtain⟨rfl,rfl⟩:=F7 (Oi h');refine⟨b,us,hb,?_,k3,k4,k5⟩;rw[ec,hcL];have:=bg (dt off k2) hL
      rwa [List.take_append_drop] at this
     show goInt 0=.int .i64 (min n len:Nat);rw[h0];rfl
    obtain⟨sb,so,-,ea,-⟩:=hel 0 (by omega);subst ea;obtain⟨g,hg⟩:∃g:Nat->Value,g=λj=>(W.cell? ⟨sb,so+j,none⟩).getD undef:=⟨_,rfl⟩
    have hgj:∀j,j<n->au ρ (f j) [g j]∧W.cell? ⟨sb,so+j,none⟩=some (g j)∧(g j).oneCell'=true:=λj hj=>by
     obtain⟨b1',o1,us1,e1,e2,e3,e4⟩:=hel j hj;injection e1 with e1;injection e1 with e1 e1';subst e1 e1'
     match us1,e3 with
     | [x],_=>
      have hz:=e4 0 x rfl;have hc:=hH.hb.zok _ _ _ hz;have hc1:W.cell? ⟨sb,so+j,none⟩=some x:=(by have:=hc.1;simpa using this);have:g j=x:=(by rw[hg];simp[hc1]);rw[this];exact⟨aK (Names.vW ρ) _ _ e2,hc1,hc.2⟩
    have hlenm:((List.range (min n len)).map g).length=Nat.min n len:=(by rw[List.length_map,List.length_range]);have hsrc:∀(j:Nat) (c:Value),((List.range (min n len)).map g)[j]? = some c->W.cell? ((⟨sb,so,none⟩:Addr).add j)=some c:=λj c hc=>(by have hj:j<min n len:=(by have:=(F3.1 hc).1;simpa using this);rw[bO];simp[hj] at hc;rw[<-hc];exact(hgj j (by omega)).2.1);have h1:∀c∈(List.range (min n len)).map g,c.oneCell'=true:=λc hc=>(by obtain⟨j,hj,rfl⟩:=List.mem_map.1 hc;rw[List.mem_range] at hj;exact(hgj j (by omega)).2.2);have XV:=run_copy_row C.P W t t2 ty e b off len cap ⟨sb,so,none⟩ n scap us.toArray bt _ ht hs1 k3 hlenm hsrc (by simp;omega) h1;have erow:us.take off++(List.range (min n len)).map g++us.drop (off+((List.range (min n len)).map g).length)=us.take off++copyV g n 0 len (us.drop off):=(by rw[Bi (by simp;omega),List.append_assoc,List.drop_drop,List.length_map,List.length_range]);refine⟨_,_,XV,ρ,jR hH.hb (.inl hb) k5,λn' Yu h'=>?_,?_⟩;obtain⟨rfl,rfl⟩:=F7 (Oi h');refine⟨b,_,hb,?_,setRow_heap W b _ _ _ _ k3,λc YU=>?_,k5⟩;rw[ec];show au ρ _ (us.take off++(List.range (min n len)).map g++us.drop (off+((List.range (min n len)).map g).length));rw[erow];exact bg (dt _ k2) (qI (λj hj=>(hgj j hj).1) len 0 _ _ ha (bS off k2));rcases Xr.1 YU with YU|YU;rcases Xr.1 YU with YU|YU;exact k4 c (by simpa using List.mem_of_mem_take YU);exact h1 c YU;exact k4 c (by simpa using List.mem_of_mem_drop YU);show goInt _=.int .i64 (min n len:Nat);rw[hlenm];rfl
   cases hD
  cases hD
 cases hD
theorem ir(h1:off<=j)(h2:j<off+n):mE off n j=true:=by unfold mE;rw[Nat.ble_eq_true_of_le h1];exact Nat.ble_eq_true_of_le h2
theorem dH(h:j<off∨off+n<=j):mE off n j=false:=by
 cases hb:mE off n j with
 | false=>rfl
 | true=>
  unfold mE at hb;split at hb;rename_i hc;have:=F4 hc;rw[Nat.blt_eq] at hb;omega;cases hb
theorem Qz(hH:YH C H ρ W){x:SV}{u:Value}(hD:T3 C H t x y=some r)(ho:r.Ob)(hx:den ρ x u)(hy:den ρ y v) :
  ∃w W',(Builtin.append_ #[t,t] ty #[u,v]).run C.P W=.ok w W'∧eB C ρ W nm r w W':=by
 unfold T3 at hD;split at hD;cases hD;rename_i e ei Yt;obtain⟨i,z,ht,hi,hs,hby,hz,Y2⟩:=bV Yt;split at hD
 ·rename_i m k b0 hr;have Y8:0<ei.sz:=(by rcases Nat.eq_zero_or_pos ei.sz with h|h;rw[h] at b0;cases b0;exact h);obtain⟨ad',c',news,rfl,hn,h1,hk⟩:=ju hH Y8 hr hy;split at hD
  ·rename_i l ep sz n;split at hD
   ·rename_i N h e' hl b2;have b2:=Nb b2;subst b2;split at hD
    ·rename_i b3;have b3:=Nb b3;subst b3;obtain rfl:=Oi hD;obtain⟨hnN,Zo⟩:=ho;obtain⟨lv,p1,po,p2,p3,a',rfl,p5⟩:=hx;obtain⟨lv',q1,q2,q3,q4,q5⟩:=hH.blk l _ (lD hl);rw[p1] at q1;obtain rfl:=Oi q1;simp only[Nat.sub_zero,B',Nat.zero_mul] at p2 p5 ⊢;have hlen:=hn.1;by_cases hc:lv.cap=0;obtain rfl:n=0:=(by omega);obtain rfl:m=0:=(by omega);obtain rfl:news=[]:=List.eq_nil_of_length_eq_zero (by simpa using hlen);rw[hc];refine⟨_,W,mn ht hi (by rw[hs];exact hn) (F2 _),ρ,(ZB.rm hH.hb (Gr.refl W)).I3 rfl,λn' Yu h'=>?_,?_⟩;obtain⟨rfl,rfl⟩:=F7 (Oi h');exact⟨lv,p1,q2,q3,q4,λh=>P' hc h⟩;exact⟨lv,p1,po,by omega,p3,a',by rw[hc],λh=>P' hc (by simpa using h)⟩;obtain⟨b,YB,rfl⟩:=p5 hc;obtain⟨b',cur,s1,s2,s3,s4,s5,s6⟩:=q5 hc;rw[YB] at s1;obtain rfl:b=b':=(by injection s1 with s1;injection s1);have YZ:bM ρ l b:=.inr (.inl ⟨ep,lv,0,p1,q2,hc,YB⟩);have YX:n+m<=lv.cap:=(by omega);have hmul:(n+m)*ei.sz<=lv.cap*ei.sz:=Xo _ YX;rw[Nat.add_mul] at hmul;have XV:=lq (P:=C.P) (w:=W) (ty:=ty) (c:=c') (sCap:=lv.cap) ht hi s2 (by rw[hs];exact hn) h1 YX (by rw[hs,hlen];simp;omega);rw[hs,hlen,show cur.toArray.toList=cur by simp] at XV;refine⟨_,_,XV,ρ,jR hH.hb YZ s5,λn' Yu h'=>?_,?_⟩
     ·obtain⟨rfl,rfl⟩:=F7 (Oi h');have hl1:(cur.take (n*ei.sz)).length=n*ei.sz:=(by rw[List.length_take];omega);refine⟨lv,p1,q2,q3,q4,λ_=>⟨b,_,YB,setRow_heap W b _ _ _ _ s2,?_,?_,s5,λi' YT=>?_⟩⟩;simp only[List.length_append,List.length_take,List.length_drop,hlen];omega;intro c hc;rcases Xr.1 hc with hc|hc;rcases Xr.1 hc with hc|hc;exact s4 c (List.mem_of_mem_take hc);exact h1 c hc;exact s4 c (List.mem_of_mem_drop hc);have hget:∀q:Nat,(cur.take (n*ei.sz)++news++cur.drop (n*ei.sz+m*ei.sz))[q]? = if q<n*ei.sz then cur[q]? else if q<n*ei.sz+m*ei.sz then news[q-n*ei.sz]? else cur[q]?:=by
       intro q;split;rw[List.append_assoc,F5 (by omega),Xn (by omega)];split;rw[List.append_assoc,F6 (by omega),hl1,F5 (by omega)];rw[List.append_assoc,F6 (by omega),hl1,F6 (by omega),List.getElem?_drop]
       congr 1;omega
      obtain⟨us,k1,k2,k3⟩:=s6 i' YT;rcases Nat.lt_or_ge i' n with X0|hge;have ZR:i'*ei.sz+ei.sz<=n*ei.sz:=(by rw[<-Nat.succ_mul];exact Xo _ X0);refine⟨us,by dsimp only;rw[dH (.inl X0)];exact bZ _ _ _ (Zo i' (by omega) _) k1,k2,λq c hq=>?_⟩;have hql:q<ei.sz:=(by rw[<-k2];exact(F3.1 hq).1);rw[hget,Xl (by omega)];exact k3 q c hq;rcases Nat.lt_or_ge i' (n+m) with hlt2|hge2;obtain⟨us',r1,r2,r3⟩:=hk (i'-n) (by omega);refine⟨us',by dsimp only;rw[ir hge hlt2];exact eQ _ _ _ r1,r2,λq c hq=>?_⟩;have hql:q<ei.sz:=(by rw[<-r2];exact(F3.1 hq).1);have h3:=r3 q c hq;have h4:i'*ei.sz+q=n*ei.sz+((i'-n)*ei.sz+q):=(by rw[<-Nat.add_assoc,<-Nat.add_mul];congr 2;omega);have ZR:(i'-n)*ei.sz+ei.sz<=m*ei.sz:=(by rw[<-Nat.succ_mul];exact Xo _ (by omega));rw[hget,Xk (by omega),Xl (by omega),h4,Nat.add_sub_cancel_left];exact h3;have ZR:n*ei.sz+m*ei.sz<=i'*ei.sz:=(by rw[<-Nat.add_mul];exact Xo _ hge2);refine⟨us,by dsimp only;rw[dH (.inr hge2)];exact bZ _ _ _ (Zo i' (by omega) _) k1,k2,λq c hq=>?_⟩;rw[hget,Xk (by omega),Xk (by omega)];exact k3 q c hq
     exact⟨lv,p1,po,by omega,p3,some ⟨b,0,none⟩,by simp,λ_=>⟨b,YB,by simp⟩⟩
    cases hD
   cases hD
  cases hD
 cases hD
theorem tq(w:World)(dT sT ty elem:TypeId){i:TypeInfo}(d a:Option Addr)(dLen dCap Yg sCap:Nat)(hu:P.underlying dT=some (.slice elem))(hi:P.info? elem=some i)(hn:Nat.min Yg dLen=0) :
  (Builtin.copy_ #[dT,sT] ty #[.slice d dLen dCap,.slice a Yg sCap]).run P w=.ok (goInt 0) w:=by
 have hl:∀(x:Addr),(loadCells x 0).run P w=.ok #[] w:=λx=>by simpa using run_loadCells_list (P:=P) w x [] (by simp)
 cases d<;>cases a<;>simp[Builtin.copy_,run_underlying hu,Builtin.lenOf,Builtin.firstCells,sizeOf,typeInfo,hi,hn,storeCells,hl]
theorem vF(w:World)(dT sT ty elem:TypeId){i:TypeInfo}(g o dLen dCap:Nat)(ad:Option Addr)(Yg sCap m c:Nat)(cur:Array Value)(t:TypeId)(cs:List Value)(hu:P.underlying dT=some (.slice elem))(hi:P.info? elem=some i)(hg:w.heap[g]? = some (.cells cur t (0,0)))(hm:m=Nat.min Yg dLen)(hf:eL P w i.size m (.slice ad m c) cs)(Yo:o+cs.length<=cur.size)(h1:∀v∈cs,v.oneCell'=true) :
  (Builtin.copy_ #[dT,sT] ty #[.slice (some ⟨g,o,none⟩) dLen dCap,.slice ad Yg sCap]).run P w =
   .ok (goInt m) (w.setRow g (cur.toList.take o++cs++cur.toList.drop (o+cs.length)).toArray):=by
 have hl:(Builtin.firstCells i.size m (.slice ad Yg sCap)).run P w=.ok cs.toArray w:=by have:=hf.2 w λ_ _=>rfl;cases ad<;>exact this
 have Ya:=run_storeCells_at P g o t cs 0 cur w hg (by simpa using Yo) h1;simp only[Nat.add_zero] at Ya;simp[Builtin.copy_,run_underlying hu,Builtin.lenOf,sizeOf,typeInfo,hi,<-hm,hl,Ya]
theorem Ck{k:Nat->List SV}(hr:qZ H sz (oa n y)=some (m,k))(hH:YH C H ρ W)(Y8:0<sz)(hy:den ρ y v)(hmn:m<=n) :
  ∃ad m0 c0 c,v=.slice ad m0 c0∧m=Nat.min m0 n∧den ρ (oa n y) (.slice ad m c):=by
 have plain:oa n y=y->∃ad m0 c0 c,v=.slice ad m0 c0∧m=Nat.min m0 n∧den ρ (oa n y) (.slice ad m c):=λe=>by rw[e] at hr ⊢;obtain⟨ad,c,news,rfl,-⟩:=ju hH Y8 hr hy;exact⟨ad,m,c,c,rfl,by simp only[Nat.min_def];split<;>omega,hy⟩
 cases y with
 | g l e Yb off q=>
  obtain⟨lv,p1,p2,p3,p4,a',rfl,p6⟩:=hy;have hd:den ρ (oa n (.g l e Yb off q)) (.slice a' (min q n) (lv.cap-off)):=⟨lv,p1,p2,by omega,p4,a',rfl,p6⟩
  obtain⟨ad,c,news,e1,-⟩:=ju hH Y8 hr hd;injection e1 with e1 e2 e3;rw[e2] at hd;exact⟨a',q,_,_,rfl,by rw[<-e2],hd⟩
 | rs Yb q f=>
  obtain⟨a,cap,rfl,h1,h2⟩:=hy;have hd:den ρ (oa n (.rs Yb q f)) (.slice a (min q n) cap):=⟨a,cap,rfl,by omega,λi hi=>h2 i (by omega)⟩
  obtain⟨ad,c,news,e1,-⟩:=ju hH Y8 hr hd;injection e1 with e1 e2 e3;rw[e2] at hd;exact⟨a,q,_,_,rfl,by rw[<-e2],hd⟩
 | _=>exact plain rfl
theorem LU(hH:YH C H ρ W){t2:TypeId}{x:SV}{u:Value}(hD:LW C H t x y=some r)(ho:r.Ob)(hx:den ρ x u)(hy:den ρ y v) :
  ∃w W',(Builtin.copy_ #[t,t2] ty #[u,v]).run C.P W=.ok w W'∧eB C ρ W nm r w W':=by
 unfold LW at hD;split at hD;cases hD;rename_i e ei Yt;obtain⟨i,z,ht,hi,hs,hby,hz,Y2⟩:=bV Yt;split at hD
 ·rename_i l ep sz off n;split at hD
  ·rename_i m k N h e' b0 hr hl b2;have Y8:0<ei.sz:=(by rcases Nat.eq_zero_or_pos ei.sz with h|h;rw[h] at b0;cases b0;exact h);have b2:=Nb b2;subst b2;split at hD
   ·rename_i b3;have b3:=Nb b3;subst b3;obtain rfl:=Oi hD;obtain⟨hmn,Zo⟩:=ho;obtain⟨ad,m0,c0,c',rfl,hm,hy'⟩:=Ck hr hH Y8 hy hmn;obtain⟨ad',c'',news,e1,hn,h1,hk⟩:=ju hH Y8 hr hy';injection e1 with e1 e2 e3;subst e1 e3;obtain⟨lv,p1,po,p2,p3,a',rfl,p5⟩:=hx;obtain⟨lv',q1,q2,q3,q4,q5⟩:=hH.blk l _ (lD hl);rw[p1] at q1;obtain rfl:=Oi q1;have hlen:=hn.1;rcases Nat.eq_zero_or_pos m with h0|h0;subst h0;refine⟨_,W,tq W t t2 ty e _ _ _ _ _ _ ht hi hm.symm,ρ,(ZB.rm hH.hb (Gr.refl W)).I3 rfl,λn' Yu h'=>?_,rfl⟩;obtain⟨rfl,rfl⟩:=F7 (Oi h');refine⟨lv,p1,q2,q3,q4,λhc=>?_⟩;obtain⟨b,cur,s1,s2,s3,s4,s5,s6⟩:=q5 hc;refine⟨b,cur,s1,s2,s3,s4,s5,λi' YT=>?_⟩;obtain⟨us,k1,k2,k3⟩:=s6 i' YT;exact⟨us,by dsimp only;rw[dH (by omega)];exact bZ _ _ _ (Zo i' (by omega) (dH (by omega))) k1,k2,k3⟩;have hc:lv.cap≠0:=(by omega);obtain⟨b,YB,rfl⟩:=p5 (by omega);obtain⟨b',cur,s1,s2,s3,s4,s5,s6⟩:=q5 hc;rw[YB] at s1;obtain rfl:b=b':=(by injection s1 with s1;injection s1);have YZ:bM ρ l b:=.inr (.inl ⟨ep,lv,0,p1,q2,hc,YB⟩);have hmul:(off+m)*ei.sz<=lv.cap*ei.sz:=Xo _ (by omega);rw[Nat.add_mul] at hmul;have XV:=vF (P:=C.P) W t t2 ty e b (off*ei.sz) n (lv.cap-off) ad m0 c0 m c' cur.toArray e news ht hi s2 hm (by rw[hs];exact hn) (by rw[hlen];simp;omega) h1;rw[hlen,show cur.toArray.toList=cur by simp] at XV;refine⟨_,_,XV,ρ,jR hH.hb YZ s5,λn' Yu h'=>?_,rfl⟩;obtain⟨rfl,rfl⟩:=F7 (Oi h');have hl1:(cur.take (off*ei.sz)).length=off*ei.sz:=(by rw[List.length_take];omega);refine⟨lv,p1,q2,q3,q4,λ_=>⟨b,_,YB,setRow_heap W b _ _ _ _ s2,?_,?_,s5,λi' YT=>?_⟩⟩;simp only[List.length_append,List.length_take,List.length_drop,hlen];omega;intro c hc;rcases Xr.1 hc with hc|hc;rcases Xr.1 hc with hc|hc;exact s4 c (List.mem_of_mem_take hc);exact h1 c hc;exact s4 c (List.mem_of_mem_drop hc);have hget:∀q:Nat,(cur.take (off*ei.sz)++news++cur.drop (off*ei.sz+m*ei.sz))[q]? = if q<off*ei.sz then cur[q]? else if q<off*ei.sz+m*ei.sz then news[q-off*ei.sz]? else cur[q]?:=by
     intro q;split;rw[List.append_assoc,F5 (by omega),Xn (by omega)];split;rw[List.append_assoc,F6 (by omega),hl1,F5 (by omega)];rw[List.append_assoc,F6 (by omega),hl1,F6 (by omega),List.getElem?_drop]
     congr 1;omega
    obtain⟨us,k1,k2,k3⟩:=s6 i' YT;rcases Nat.lt_or_ge i' off with X0|hge;have ZR:i'*ei.sz+ei.sz<=off*ei.sz:=(by rw[<-Nat.succ_mul];exact Xo _ X0);refine⟨us,by dsimp only;rw[dH (.inl X0)];exact bZ _ _ _ (Zo i' (by omega) (dH (.inl X0))) k1,k2,λq c hq=>?_⟩;have hql:q<ei.sz:=(by rw[<-k2];exact(F3.1 hq).1);rw[hget,Xl (by omega)];exact k3 q c hq;rcases Nat.lt_or_ge i' (off+m) with hlt2|hge2;obtain⟨us',r1,r2,r3⟩:=hk (i'-off) (by omega);refine⟨us',by dsimp only;rw[ir hge hlt2];exact eQ _ _ _ r1,r2,λq c hq=>?_⟩;have hql:q<ei.sz:=(by rw[<-r2];exact(F3.1 hq).1);have h3:=r3 q c hq;have h4:i'*ei.sz+q=off*ei.sz+((i'-off)*ei.sz+q):=(by rw[<-Nat.add_assoc,<-Nat.add_mul];congr 2;omega);have ZR:(i'-off)*ei.sz+ei.sz<=m*ei.sz:=(by rw[<-Nat.succ_mul];exact Xo _ (by omega));rw[hget,Xk (by omega),Xl (by omega),h4,Nat.add_sub_cancel_left];exact h3;have ZR:off*ei.sz+m*ei.sz<=i'*ei.sz:=(by rw[<-Nat.add_mul];exact Xo _ hge2);refine⟨us,by dsimp only;rw[dH (.inr hge2)];exact bZ _ _ _ (Zo i' (by omega) (dH (.inr hge2))) k1,k2,λq c hq=>?_⟩;rw[hget,Xk (by omega),Xk (by omega)];exact k3 q c hq
   cases hD
  cases hD
 cases hD
theorem GK(hH:YH C H ρ W)(h:lS op a ρ){low high max:Option Operand}{u:SV}{lo hi mx:Option SV}(hD:Cv C H t u lo hi mx=some r)(ho:r.Ob)(hx:den ρ u (a.eval x))(h1:opO op low=some lo)(h2:opO op high=some hi)(h3:opO op max=some mx) :
  ∃y,Yields r ρ y∧(execOp a.eval ⟨dst,.slice t x low high max,ty,pos,after,guard⟩).run C.P W=.ok (.value y) W:=by
 have n1:∀{x:Option Operand},opO op x=some none->x.map a.eval=none:=λ{x} hx=>by
  rcases xQ h hx with ⟨rfl,-⟩|⟨o,u,rfl,e,-⟩
  rfl;cases e
 have s1:∀{x:Option Operand} {u:SV} {k:IntKind} {n:Int},opO op x=some (some u)->u.int? = some (k,n)->x.map a.eval=some (.int k n):=λ{x u k n} hx hu=>by
  rcases xQ h hx with ⟨-,e⟩|⟨o,u',rfl,e,hd⟩
  cases e;obtain rfl:=Oi e;rw[Option.map_some,SV.int?_den hu hd]
 unfold Cv at hD;split at hD
 ·rename_i m e0 sz off n;split at hD
  ·rename_i ei N hh hty Yt hl;obtain⟨inf,z,ht,XX,hs,-⟩:=bV Yt;obtain⟨lv,p1,po,p2,p3,ad,e1,p5⟩:=hx;obtain⟨lv',q1,q2,q3,q4,q5⟩:=hH.blk m _ (lD hl);rw[p1] at q1;obtain rfl:=Oi q1;have wide:∀n2,off+n2<=lv.N->den ρ (.g m e0 sz off n2) (.slice ad n2 (lv.cap-off)):=λn2 hn=>⟨lv,p1,po,hn,p3,ad,rfl,p5⟩
   split at hD;rename_i b1;have b1:=Nb b1;split at hD;rename_i k b hb;obtain⟨o1,o2⟩:=ia hD ho;refine⟨_,cU hD ?_,cO (l:=0) (h:=b.toNat) (m:=lv.cap-off) e1 ht XX ?_⟩;have:=oG (l:=0) (h:=b.toNat) (by omega) (by omega) (wide b.toNat (by omega));rw[hs,b1];exact this;rw[n1 h1,s1 h2 hb,n1 h3];exact aL (.inl ⟨rfl,rfl⟩) (.inr ⟨k,b,rfl,o1,by omega,rfl⟩) (.inl ⟨rfl,rfl⟩);cases hD;rename_i b1;have b1:=Nb b1;split at hD;rename_i k p k' q hp hq;obtain⟨o1,o2,o3⟩:=ia hD ho;refine⟨_,cU hD ?_,cO (l:=p.toNat) (h:=q.toNat) (m:=lv.cap-off) e1 ht XX ?_⟩;have:=oG (l:=p.toNat) (h:=q.toNat) (by omega) (by omega) (wide q.toNat (by omega));rw[hs,b1];exact this;rw[s1 h1 hp,s1 h2 hq,n1 h3];exact aL (.inl ⟨rfl,rfl⟩) (.inr ⟨k',q,rfl,by omega,by omega,rfl⟩) (.inr ⟨k,p,rfl,o1,by omega,rfl⟩);cases hD;rename_i b1;have b1:=Nb b1;split at hD;rename_i k p k' q k2 c hp hq hcc;obtain⟨o1,o2,o3,o4⟩:=ia hD ho;refine⟨_,cU hD ?_,cO (l:=p.toNat) (h:=q.toNat) (m:=c.toNat) e1 ht XX ?_⟩;have hg:=oG (l:=p.toNat) (h:=q.toNat) (by omega) (by omega) (wide q.toNat (by omega));obtain⟨lw,r1,ro,r2,r3,ad2,r4,r5⟩:=hg;rw[p1] at r1;obtain rfl:=Oi r1;rcases Nat.eq_zero_or_pos (q.toNat-p.toNat) with hz0|hpos;rw[hz0];exact⟨_,_,rfl,by omega,λi hi=>P' hi (F1 i)⟩;have Ym:lv.cap-off≠0:=(by omega);obtain⟨b,YB,rfl⟩:=p5 Ym;refine⟨_,_,rfl,by omega,λi _=>?_⟩;have XW:¬c.toNat=p.toNat:=(by omega);rw[Xk XW];exact⟨b,off*sz+p.toNat*inf.size,[],by show some ((⟨b,off*sz,none⟩:Addr).add (p.toNat*inf.size))=_;unfold Addr.add;split<;>simp_all,rfl,rfl,λk c hk=>by cases hk⟩;rw[s1 h1 hp,s1 h2 hq,s1 h3 hcc];exact aL (.inr ⟨k2,c,rfl,by omega,by omega,rfl⟩) (.inr ⟨k',q,rfl,by omega,by omega,rfl⟩) (.inr ⟨k,p,rfl,o1,by omega,rfl⟩);cases hD;cases hD
  cases hD
 cases hD
theorem clear_ok(hH:YH C H ρ W){x:SV}{u:Value}(hD:clearD C H t x=some r)(ho:r.Ob)(hx:den ρ x u) :
  ∃W',(Builtin.clear_ #[t] ty #[u]).run C.P W=.ok (.tuple #[]) W'∧eB C ρ W nm r (.tuple #[]) W':=by
 unfold clearD at hD;split at hD;cases hD;rename_i e ei Yt;obtain⟨i,z,ht,hi,hs,hby,hz,Y2⟩:=bV Yt;have hnil:∀(a:Option Addr) (c:Nat),(Builtin.clear_ #[t] ty #[.slice a 0 c]).run C.P W=.ok (.tuple #[]) W:=λa c=>by cases a<;>simp[Builtin.clear_,run_underlying ht]
 have htup:den ρ (.tup []) (.tuple #[]):=⟨[],rfl,rfl⟩
 split at hD;obtain⟨a,rfl⟩:=hx;exact⟨W,hnil a 0,dj hH.hb (bp hD htup)⟩;obtain rfl:u=_:=hx;exact⟨W,hnil none 0,dj hH.hb (bp hD htup)⟩
 ·rename_i m ep sz off n;split at hD
  ·rename_i N h e' hl b2 b3 b4;have b2:=Nb b2;have b3:=Nb b3;have Y8:0<sz:=(by rcases Nat.eq_zero_or_pos sz with h|h;rw[h] at b4;cases b4;exact h);split at hD
   ·rename_i b5;have b5:=Nb b5;subst b5;obtain rfl:=Oi hD;have Zo:∀j,j<N->dD ei.z (h j):=ho;obtain⟨lv,p1,po,p2,p3,a',rfl,p5⟩:=hx;obtain⟨lv',q1,q2,q3,q4,q5⟩:=hH.blk m _ (lD hl);rw[p1] at q1;obtain rfl:=Oi q1;have hzd:=cg (ρ:=ρ.zo) Y2;have hzc:z.cells.size=sz:=(by have:=aB hzd;rw[<-b2,<-b3,<-this];simp);rcases Nat.eq_zero_or_pos n with rfl|hn
    ·refine⟨W,hnil a' _,ρ,(ZB.rm hH.hb (Gr.refl W)).I3 rfl,λn' Yu h'=>?_,htup⟩;obtain⟨rfl,rfl⟩:=F7 (Oi h');refine⟨lv,p1,q2,q3,q4,λhc=>?_⟩;obtain⟨b,u,k1,k2,k3,k4,k5,k6⟩:=q5 hc;refine⟨b,u,k1,k2,k3,k4,k5,λj hj=>?_⟩;obtain⟨us,r1,r2,r3⟩:=k6 j hj;have hins:mE off 0 j=false:=by
      unfold mE;split
      ·rename_i hb;have:=F4 hb;cases X0:Nat.blt j (off+0) with
       | false=>rfl
       | true=>rw[Nat.blt_eq] at X0;omega
      rfl
     exact⟨us,by dsimp only;rw[hins];exact bZ _ _ _ (Zo j hj) r1,r2,r3⟩
    obtain⟨b,YB,rfl⟩:=p5 (by omega);obtain⟨b',cur,s1,s2,s3,s4,s5,s6⟩:=q5 (by omega);rw[YB] at s1;obtain rfl:b=b':=(by injection s1 with s1;injection s1);have YZ:bM ρ m b:=.inr (.inl ⟨ep,lv,0,p1,q2,by omega,YB⟩);have hzl:(Builtin.zeroCells z.cells n).toList.length=n*sz:=(by rw[ga,hzc]);have hmul:off*sz+n*sz<=lv.cap*sz:=(by rw[<-Nat.add_mul];exact Xo _ (by omega));have Ya:=run_storeCells_at (P:=C.P) b (off*sz) e (Builtin.zeroCells z.cells n).toList 0 cur.toArray W s2 (by rw[hzl];simp;omega) (gX Y2);have hcur:cur.toArray.toList=cur:=(by simp);simp only[Nat.add_zero,hcur] at Ya;have XV:(Builtin.clear_ #[t] ty #[.slice (some ⟨b,off*sz,none⟩) n (lv.cap-off)]).run C.P W=.ok (.tuple #[]) (W.setRow b (cur.take (off*sz)++(Builtin.zeroCells z.cells n).toList++cur.drop (off*sz+(Builtin.zeroCells z.cells n).toList.length)).toArray):=by
     cases n with
     | zero=>omega
     | succ n=>simp[Builtin.clear_,run_underlying ht,zeroValue,typeInfo,hi,hz,Ya]
    refine⟨_,XV,ρ,jR hH.hb YZ s5,λn' Yu h'=>?_,htup⟩;obtain⟨rfl,rfl⟩:=F7 (Oi h');have hl1:(cur.take (off*sz)).length=off*sz:=(by rw[List.length_take];omega);refine⟨lv,p1,q2,q3,q4,λ_=>⟨b,_,YB,setRow_heap W b _ _ _ _ s2,?_,λc YU=>?_,s5,λj hj=>?_⟩⟩;simp only[List.length_append,List.length_take,List.length_drop,hzl];omega;rcases Xr.1 YU with YU|YU;rcases Xr.1 YU with YU|YU;exact s4 c (List.mem_of_mem_take YU);exact gX Y2 c YU;exact s4 c (List.mem_of_mem_drop YU);obtain⟨us,k1,k2,k3⟩:=s6 j hj;have hget:∀q:Nat,(cur.take (off*sz)++(Builtin.zeroCells z.cells n).toList++cur.drop (off*sz+(Builtin.zeroCells z.cells n).toList.length))[q]? = if q<off*sz then cur[q]? else if q<off*sz+n*sz then(Builtin.zeroCells z.cells n).toList[q-off*sz]? else cur[q]?:=by
     intro q;split;rw[List.append_assoc,F5 (by omega),Xn (by omega)];split;rw[List.append_assoc,F6 (by omega),hl1,F5 (by omega)];rw[List.append_assoc,F6 (by omega),hl1,F6 (by omega),List.getElem?_drop]
     congr 1
     omega
    cases hins:mE off n j with
    | true=>
     have hj2:off<=j∧j<off+n:=(by unfold mE at hins;split at hins;rename_i hb;rw[Nat.blt_eq] at hins;exact⟨F4 hb,hins⟩;cases hins);refine⟨z.cells.toList,by dsimp only;rw[hins];exact eQ _ _ _ hzd,by simpa using hzc,λq c hq=>?_⟩;have hql:q<sz:=(by have:=(F3.1 hq).1;simpa[hzc] using this);have e1:j*sz+q=off*sz+((j-off)*sz+q):=(by rw[<-Nat.add_assoc,<-Nat.add_mul];congr 2;omega);have e2:(j-off)*sz+sz<=n*sz:=(by rw[<-Nat.succ_mul];exact Xo _ (by omega));rw[hget,Xk (by omega),Xl (by omega),e1,Nat.add_sub_cancel_left];have:=vY (z:=z.cells) (n:=n) (i:=j-off) (q:=q) (by omega) (by omega);rw[hzc] at this;rw[this];simpa using hq
    | false=>
     refine⟨us,by dsimp only;rw[hins];exact bZ _ _ _ (Zo j hj) k1,k2,λq c hq=>?_⟩;have hql:q<sz:=(by rw[<-k2];exact(F3.1 hq).1);have hj2:j<off∨off+n<=j:=(by unfold mE at hins;split at hins;rename_i hb;have:=F4 hb;right;rcases Nat.lt_or_ge j (off+n) with h|h;rw[<-Nat.blt_eq] at h;rw[h] at hins;cases hins;exact h;rename_i hb;left;rcases Nat.lt_or_ge j off with h|h;exact h;rw[Nat.ble_eq_true_of_le h] at hb;cases hb);rw[hget];rcases hj2 with h1|h1;have:j*sz+sz<=off*sz:=(by rw[<-Nat.succ_mul];exact Xo _ h1);rw[Xl (by omega)];exact k3 q c hq;have:off*sz+n*sz<=j*sz:=(by rw[<-Nat.add_mul];exact Xo _ h1);rw[Xk (by omega),Xk (by omega)];exact k3 q c hq
   cases hD
  cases hD
 cases hD
theorem OM(hH:YH C H ρ W)(hf:ρ.v nm=none){x:SV}{u:Value}(hD:Ae C nm t x y=some r)(ho:r.Ob)(hx:den ρ x u)(hy:den ρ y v) :
  ∃w W',(Instr.makeSlice t u v).run C.P W=.ok w W'∧eB C ρ W nm r w W':=by
 unfold Ae at hD;split at hD
 ·rename_i e ei k n k' m Yt hn hm;obtain⟨i,z,ht,hi,hs,hby,hz,Y2⟩:=bV Yt;split at hD
  ·rename_i b0 b1;have hzl:=Nb b1;have hzc:z.cells.size=ei.sz:=(by have:=aB (cg (ρ:=ρ) Y2);rw[<-hzl,<-this];simp);obtain rfl:=Oi hD;obtain⟨h0,h1,Yo⟩:=ho;have hf2:=fits (i:=i) Yo hby;obtain rfl:=SV.int?_den hn hx;obtain rfl:=SV.int?_den hm hy;obtain⟨M,rfl⟩:∃M:Nat,m=M:=⟨m.toNat,by omega⟩
   obtain⟨N,rfl⟩:∃N:Nat,n=N:=⟨n.toNat,by omega⟩
   have hNM:N<=M:=(by omega);simp only[Int.toNat_natCast] at hf2 ⊢;have hcells:madeCells z.cells (M*i.size)=Builtin.zeroCells z.cells M:=(by simp[madeCells,Builtin.zeroCells,hs,hzc]);have hmx:=hf2.1;simp[maxLen] at hmx;have h3:(i.bytes:Int)*(M:Int)<=281474976710656:=(by have h4:((M*i.bytes:Nat):Int)<=140737488355328:=Int.ofNat_le.2 hf2.2;rw[Int.natCast_mul,Int.mul_comm] at h4;exact Int.le_trans h4 (by decide));have XV:=Go.run_make (P:=C.P) W t e i z ht hi hz k k' (N:Int) (M:Int) h0 h1 h3 (by omega);simp only[Int.toNat_natCast] at XV;rw[hcells] at XV;have g:Gr W (W.alloc (.cells (Builtin.zeroCells z.cells M) e)):=(Gr.refl W).alloc _;refine⟨_,_,XV,ρ.fZ nm ⟨nm,some ⟨W.heap.size,0,none⟩,M,N⟩,eR (l:=⟨nm,some ⟨W.heap.size,0,none⟩,M,N⟩) hH.hb hf g (λ_ b o h=>?_),λn' sb h=>?_,?_⟩;injection h with h;injection h with h;subst h;exact⟨F2 _,by simp⟩;obtain⟨rfl,rfl⟩:=F7 (Oi h);refine⟨_,Names.aQ,rfl,rfl,hNM,λ_=>⟨W.heap.size,(Builtin.zeroCells z.cells M).toList,rfl,?_,?_,?_,?_,?_⟩⟩;have:Zq (W.alloc (.cells (Builtin.zeroCells z.cells M) e)) W.heap.size _ e:=Zq.new (w:=W) rfl;exact this;rw[ga,hzc];exact gX Y2;intro i' c Y4;have:=fU (hH.hb.zok _ i' c Y4).1;omega;intro i' YT;refine⟨z.cells.toList,cg Y2,by simpa using hzc,λq c hq=>?_⟩;have hql:q<z.cells.size:=(by have:=(F3.1 hq).1;simpa using this);rw[<-hzc,vY (by omega) hql];simpa using hq;exact⟨_,Names.aQ,rfl,by simp,hNM,some ⟨W.heap.size,0,none⟩,by simp,λ_=>⟨W.heap.size,rfl,by simp⟩⟩
  cases hD
 cases hD
theorem Kp{x:SV}(hD:Ae C nm t x y=some r):r.fr=true:=by unfold Ae at hD;split at hD;split at hD;obtain rfl:=Oi hD;rfl;cases hD;cases hD
theorem ET{t:Nat}{kk:nH}{ei:TI}(h:Ko C t=some (kk,ei)):∃k e i z d,C.P.underlying t=some (.map k e)∧(∃d,C.P.underlying k=some d∧∀n,Go.MapKept.IsKey d (j8 kk n))∧C.P.info? e=some i∧i.zero=some z∧eY z.cells.toList ei.z=true∧C.P.underlying e=some d∧aX d ei.k=true∧T5 z=iM ei.k:=by
 unfold Ko at h;split at h;cases h;rename_i ti YD;obtain⟨i0,d0,z0,-,hd0,-,-,-,hk0,-⟩:=(C.ty YD).ex;split at h
 ·rename_i k e Y7;rw[Y7] at hk0;obtain rfl:d0=.map k e:=by
   cases d0 with
   | map k' e'=>
    simp only[aX,I',beq_iff_eq] at hk0;rw[hk0.1,hk0.2]
   | _=>first|cases hk0|(simp[aX] at hk0)
  split at h
  ·rename_i ki ei' hki Yt;obtain⟨i1,d1,z1,-,Zk,-,-,-,Ze,-⟩:=(C.ty hki).ex;obtain⟨i2,d2,z2,hi2,ZN,-,hz2,hzz2,hk2,-⟩:=(C.ty Yt).ex;split at h
   ·rename_i kk' ZT;obtain⟨rfl,rfl⟩:=F7 (Oi h);have hkey:∀n,Go.MapKept.IsKey d1 (j8 kk' n):=λn=>by
     unfold mkK at ZT;split at ZT
     ·rename_i kq e1;obtain rfl:=Oi ZT;rw[e1] at Ze;cases d1 with
      | int k'=>obtain rfl:k'=kq:=Od Ze;rfl
      | _=>first|cases Ze|(simp[aX] at Ze)
     ·rename_i e1;obtain rfl:=Oi ZT;rw[e1] at Ze;cases d1 with
      | string=>trivial
      | _=>first|cases Ze|(simp[aX] at Ze)
     cases ZT
    exact⟨k,e,i2,z2,d2,hd0,⟨d1,Zk,hkey⟩,hi2,hz2,hzz2,ZN,hk2,(C.ty Yt).ag _ _ hi2 hz2⟩
   cases h
  cases h
 cases h
theorem Aq(k:nH)(n:Int):qj (j8 k n):=by cases k<;>trivial
theorem SV.key?_den{x:SV}{k:nH}{q:Int}(h:x.key? = some (k,q))(hd:den ρ x v):v=j8 k q:=by unfold SV.key? at h;split at h;obtain⟨rfl,rfl⟩:=F7 (Oi h);exact hd;obtain⟨rfl,rfl⟩:=F7 (Oi h);exact hd;obtain⟨rfl,rfl⟩:=F7 (Oi h);exact(show v=_ from hd).trans (O' Value.string (Hy _).symm);cases h
theorem ES{k:nH}{has:Int->Bool}{g:Int->List SV}(h:maps H n=some (k,ag,has,g)):look H n=some (.mp k ag has g):=by unfold maps at h;split at h;rename_i hl;obtain⟨rfl,h1⟩:=F7 (Oi h);obtain⟨rfl,h2⟩:=F7 h1;obtain⟨rfl,rfl⟩:=F7 h2;exact hl;cases h
theorem Hb(hH:YH C H ρ W)(hf:ρ.n nm=none)(hD:qf C nm t=some r):eB C ρ W nm r (.map (some W.heap.size)) (W.alloc (.map #[] 0)):=by unfold qf at hD;split at hD;obtain rfl:=Oi hD;have g:Gr W (W.alloc (.map #[] 0)):=(Gr.refl W).alloc _;refine⟨ρ.vo nm W.heap.size,Bc hH.hb hf g (F2 _) (by simp),λn sb h=>?_,_,Names.gu,rfl⟩;obtain⟨rfl,rfl⟩:=F7 (Oi h);exact⟨_,#[],0,Names.gu,(Go.MapKept.heap_alloc W _).1,Go.MapKept.stamped_empty 0,⟨λe he=>P' he (by simp),λn hn=>Bool.noConfusion hn⟩⟩;cases hD
theorem QC{x:SV}(hD:MB C H nm t x y=some r):r.fr=true:=by
 unfold MB at hD;repeat' split at hD
 all_goals first|(obtain rfl:=Oi hD;rfl)|cases hD
theorem Hc(hD:qf C nm t=some r):r.fr=true:=by unfold qf at hD;split at hD;obtain rfl:=Oi hD;rfl;cases hD
theorem FC{b:Nat}{o o':Obj}(hb:HB C ρ W)(hn:ρ.n n=some b)(ho:W.heap[b]? = some o)(hz:∀i c,¬ρ.z b i c):ZB C ρ W nm (some n) false ρ {W with heap:=W.heap.setIfInBounds b o'}:=by
 have hs:({W with heap:=W.heap.setIfInBounds b o'} : World).heap.size=W.heap.size:=by simp
 have hoth:∀b',b'≠b->({W with heap:=W.heap.setIfInBounds b o'} : World).heap[b']? = W.heap[b']?:=(Go.MapKept.heap_set (w:=W) (o':=o') ho).2;have hl:=hb.low n b (.inl hn);refine⟨.refl _,λ_ _ h=>.inl h,λ_ _ h=>.inl h,λ_ _ _ h=>.inl h,λ_ _=>rfl,rfl,rfl,rfl,Nat.le_of_eq hs.symm,λb' _ hn'=>hoth b' (by rintro rfl;exact hn' n rfl (.inl hn)),?_⟩;refine⟨hb.own,λn b h=>by rw[hs];exact hb.low n b h,λb' i c h=>?_,hb.grd.keep (Nat.le_of_eq hs.symm) λb' Zh=>hoth b' (by omega)⟩;have XW:b'≠b:=by rintro rfl;exact hz i c h
 exact⟨(cell_of_heap (hoth b' XW)).trans (hb.zok b' i c h).1,(hb.zok b' i c h).2⟩
theorem Ad{v:SV}{y:Value}(h:tZ ag v=some l)(hd:den ρ v y):∃u,au ρ l u∧FZ ag u y:=by unfold tZ at h;split at h;obtain rfl:=Oi h;obtain⟨u,h1,h2⟩:=hd;exact⟨u,h1,h2⟩;cases h;cases h;cases h;cases h;obtain rfl:=Oi h;exact⟨[y],aN hd rfl,rfl⟩;cases h
theorem G6{α:Type}{l:List α}(h:l.Nodup){i:Nat}(hi:i<l.length)(hj:j<l.length)(e:l[i]=l[j]):i=j:=by rcases Nat.lt_trichotomy i j with k|k|k;exact P' e (List.pairwise_iff_getElem.1 h i j hi hj k);exact k;exact P' e.symm (List.pairwise_iff_getElem.1 h j i hj hi k)
theorem Ha(hH:YH C H ρ W){x i v:SV}{uv:Value}(hD:yd C H t x i v=some r)(ho:r.Ob)(hx:den ρ x ux)(hi:den ρ i ui)(hv:den ρ v uv) :
  ∃W',(Instr.mapUpdate t ux ui uv).run C.P W=.ok () W'∧∀nm,eB C ρ W nm r undef W':=by
 unfold yd at hD;split at hD
 ·rename_i kk ei n hmt;obtain⟨kt,et,inf,z,d,ht,⟨d0,hkt,ZT⟩,-⟩:=ET hmt;split at hD
  ·rename_i k ag has g k' q hmp hq;split at hD
   ·rename_i l Ze hk2 hl;split at hD
    ·rename_i hpu;obtain rfl:=kr Ze;obtain rfl:=kr hk2;obtain rfl:=Oi hD;have hal:∀j,dD l (g j):=ho;obtain⟨b,e1,rfl⟩:=hx;obtain rfl:=SV.key?_den hq hi;obtain⟨b',es,cl,h1,h2,h3,h4⟩:=hH.blk n _ (ES hmp);rw[e1] at h1;obtain rfl:=Oi h1;obtain⟨u,hu1,hu2⟩:=Ad hl hv;have hu3:=cJ _ _ hpu hu1;have YY:∀i c,¬ρ.z b i c:=λi c hz=>(by have:=(hH.hb.zok b i c hz).1;simp[World.cell?,h2] at this);have hks:∀x∈es.toList,Go.MapKept.IsKey d0 x.key:=λx hx=>(by obtain⟨m,hm,-⟩:=h4.keys x hx;rw[hm];exact ZT _);have hk:Go.MapKept.IsKey d0 (j8 k' q):=ZT _;rcases Go.MapKept.findNow_spec hk es.toList 0 hks with ⟨f1,f2⟩|⟨j,e,f1,f2,f3⟩
     have XV:(Instr.mapUpdate t (.map (some b)) (j8 k' q) uv).run C.P W=.ok () {W with heap:=W.heap.setIfInBounds b (.map (es.push {key:=j8 k' q,val:=uv,born:=cl}) (cl+1))}:=(by simp[Instr.mapUpdate,run_underlying ht,Go.MapKept.run_getObj_map h2,Go.MapKept.run_checkKey hkt hk,Go.MapKept.run_findKey hkt f1,Go.MapKept.run_setObj_map _ h2,Result.andThen]);refine⟨_,XV,λnm=>⟨ρ,FC hH.hb e1 h2 YY,λn' sb hn'=>?_,rfl⟩⟩;obtain⟨rfl,rfl⟩:=F7 (Oi hn');refine⟨b,_,_,e1,(Go.MapKept.heap_set h2).1,Go.MapKept.stamped_push h3 f2,λx hx=>?_,λm hm=>?_⟩;simp only[Array.toList_push,Xr,List.mem_singleton] at hx;rcases hx with hx|rfl;obtain⟨m,q1,q2,us,q3,q4⟩:=h4.keys x hx;have XW:m≠q:=λe=>f2 x hx (by rw[q1,e]);refine⟨m,q1,by rw[q2,Bool.or_true],us,?_,q4⟩;rw[Xi XW];exact bZ _ _ _ (hal m) q3;refine⟨q,rfl,by rw[Xj rfl,Bool.true_or],u,?_,hu2⟩;rw[Xj rfl];exact eQ _ _ _ hu3;by_cases e:m=q;subst e;exact⟨_,by simp only[Array.toList_push,Xr,List.mem_singleton];exact .inr rfl,rfl⟩;rw[Xi e,Bool.false_or] at hm;obtain⟨x,hx,q1⟩:=h4.yes m hm;exact⟨x,by simp only[Array.toList_push,Xr];exact .inl hx,q1⟩;have hj:es[j]? = some e:=(by simpa using f2);have XV:(Instr.mapUpdate t (.map (some b)) (j8 k' q) uv).run C.P W=.ok () {W with heap:=W.heap.setIfInBounds b (.map (es.modify j λe=>{e with key:=j8 k' q,val:=uv}) cl)}:=(by simp[Instr.mapUpdate,run_underlying ht,Go.MapKept.run_getObj_map h2,Go.MapKept.run_checkKey hkt hk,Go.MapKept.run_findKey hkt f1,hj,f3,Go.MapKept.run_keyThatStays hk,Go.MapKept.run_setObj_map _ h2,Result.andThen]);have hkey:∀e',es[j]? = some e'->({e' with key:=j8 k' q,val:=uv} : MapEntry).key=e'.key:=λe' he'=>(by rw[hj] at he';cases he';exact f3.symm);refine⟨_,XV,λnm=>⟨ρ,FC hH.hb e1 h2 YY,λn' sb hn'=>?_,rfl⟩⟩;obtain⟨rfl,rfl⟩:=F7 (Oi hn');refine⟨b,_,_,e1,(Go.MapKept.heap_set h2).1,Go.MapKept.stamped_modify h3 _ _ (λ_ _=>rfl) (λe' _ he'=>hkey e' he'),λx hx=>?_,λm hm=>?_⟩;obtain⟨i',YT,hxi⟩:=List.mem_iff_getElem.1 hx;have hxi2:(es.modify j λe=>{e with key:=j8 k' q,val:=uv})[i']? = some x:=(by rw[<-Array.getElem?_toList,Xt YT,hxi]);rw[Array.getElem?_modify] at hxi2;by_cases hij:j=i';subst hij;rw[Xl rfl,hj] at hxi2;obtain rfl:=Oi hxi2;refine⟨q,rfl,by rw[Xj rfl,Bool.true_or],u,?_,hu2⟩;rw[Xj rfl];exact eQ _ _ _ hu3;rw[Xk hij] at hxi2;have hxm:x∈es.toList:=(by have:es.toList[i']? = some x:=(by simpa using hxi2);exact Xu this);obtain⟨m,q1,q2,us,q3,q4⟩:=h4.keys x hxm;have XW:m≠q:=λem=>hij (by have hnd:=h3.2.2;have a1:(es.toList.map (·.key))[j]? = some (j8 k' q):=(by simp[hj,f3]);have a2:(es.toList.map (·.key))[i']? = some (j8 k' q):=(by have:es.toList[i']? = some x:=(by simpa using hxi2);rw[List.getElem?_map,this,Option.map_some,q1,em]);obtain⟨b1,c1⟩:=F3.1 a1;obtain⟨b2,c2⟩:=F3.1 a2;exact G6 hnd b1 b2 (c1.trans c2.symm));refine⟨m,q1,by rw[q2,Bool.or_true],us,?_,q4⟩;rw[Xi XW];exact bZ _ _ _ (hal m) q3;have hkeys:=Go.MapKept.modify_keys (es:=es) j (λe=>{e with key:=j8 k' q,val:=uv}) hkey;have hin:(j8 k' m:Value)∈es.toList.map (·.key):=(by by_cases em:m=q;subst em;exact List.mem_map.2 ⟨e,Xu f2,f3⟩;rw[Xi em,Bool.false_or] at hm;obtain⟨x,hx,q1⟩:=h4.yes m hm;exact List.mem_map.2 ⟨x,hx,q1⟩);rw[<-hkeys] at hin;obtain⟨x,hx,q1⟩:=List.mem_map.1 hin;exact⟨x,hx,q1⟩
    cases hD
   cases hD
  cases hD
 cases hD
theorem wE{v:SV}{u:List Value}{y:Value}(h:mapVal ag l=some v)(hd:au ρ l u)(hc:FZ ag u y):den ρ v y:=by unfold mapVal at h;split at h;obtain rfl:=Oi h;exact⟨u,hd,hc⟩;rename_i x;obtain rfl:=Oi h;obtain rfl:u=[y]:=hc;obtain⟨a,b,e1,e2,-⟩:=aF hd;obtain rfl:y=a:=(by injection e1);exact e2;cases h
theorem wj{a b:Bool}(h:Cz a b=true):a=b:=by cases a<;>cases b<;>first|rfl|cases h
theorem Hd(hH:YH C H ρ W){x i:SV}{ok:Bool}(hD:ye C H t x i ok=some r)(ho:r.Ob)(hx:den ρ x ux)(hi:den ρ i ui) :
  ∃y,(Instr.lookup t ux ui ok).run C.P W=.ok y W∧Yields r ρ y:=by
 unfold ye at hD;split at hD
 ·rename_i kk ei n hmt;obtain⟨kt,et,inf,z,d,ht,⟨d0,hkt,ZT⟩,Yt,hz,Y2,hde,hke,hav⟩:=ET hmt;split at hD
  ·rename_i k ag has g k' q hmp hq;split at hD
   ·rename_i v Ze hk2 YV hv;obtain rfl:=kr Ze;obtain rfl:=kr hk2;obtain rfl:=wj YV;obtain⟨b,e1,rfl⟩:=hx;obtain rfl:=SV.key?_den hq hi;obtain⟨b',es,cl,h1,h2,h3,h4⟩:=hH.blk n _ (ES hmp);rw[e1] at h1;obtain rfl:=Oi h1;have hal:dD (g q) ei.z:=by cases ok<;>(obtain rfl:=Oi hD;exact ho)
    have hks:∀x∈es.toList,Go.MapKept.IsKey d0 x.key:=λx hx=>(by obtain⟨m,hm,-⟩:=h4.keys x hx;rw[hm];exact ZT _);have hk:Go.MapKept.IsKey d0 (j8 k' q):=ZT _;have key:∃y,(Instr.lookup t (.map (some b)) (j8 k' q) ok).run C.P W=.ok (if ok then .tuple #[y,.bool (has q)] else y) W∧den ρ v y:=by
     rcases Go.MapKept.findNow_spec hk es.toList 0 hks with ⟨f1,f2⟩|⟨j,e,f1,f2,f3⟩
     ·have hq0:has q=false:=by
       cases hh:has q with
       | false=>rfl
       | true=>
        obtain⟨x,hx,q1⟩:=h4.yes q hh;exact P' q1 (f2 x hx)
      refine⟨z,?_,?_⟩;simp[Instr.lookup,run_underlying ht,Go.MapKept.run_getObj_map h2,Go.MapKept.run_checkKey hkt hk,Go.MapKept.run_findKey hkt f1,zeroValue,typeInfo,Yt,hz,hq0,Result.andThen];rw[hq0] at hv;have hzc:∃u,au ρ ei.z u∧FZ (iM ei.k) u z:=(by refine⟨z.cells.toList,cg Y2,?_⟩;rw[<-hav];cases z<;>rfl);obtain⟨u,k1,k2⟩:=hzc;exact wE hv (bZ _ _ _ hal k1) k2
     have hem:e∈es.toList:=Xu f2;obtain⟨m,q1,q2,u,q3,q4⟩:=h4.keys e hem;have hmq:m=q:=(by rw[f3] at q1;exact(KE q1).symm);subst hmq;refine⟨e.val,?_,?_⟩;simp[Instr.lookup,run_underlying ht,Go.MapKept.run_getObj_map h2,Go.MapKept.run_checkKey hkt hk,Go.MapKept.run_findKey hkt f1,q2,Result.andThen];rw[q2] at hv;exact wE hv (eQ _ _ _ (aK (Names.vW ρ) _ _ q3)) q4
    obtain⟨y,hy1,hy2⟩:=key;cases ok with
    | true=>
     obtain rfl:=Oi hD;exact⟨_,hy1,rfl,rfl,[y,.bool (has q)],aN hy2 (aN rfl rfl),rfl⟩
    | false=>
     obtain rfl:=Oi hD;exact⟨_,hy1,rfl,rfl,hy2⟩
   cases hD
  cases hD
 cases hD
theorem pq{f:FuncId}{first captured al:Array Value}(hc:c.callee=.value x)(hx:a.eval x=.func (.func f) first captured)(en:∀(args:Array Value) (w:World),(callFunc f args).run P w=.ok (.enter f args) w)(e:first++c.args.map a.eval++captured=al) :
  (execOp a.eval ⟨dst,.call c,ty,pos,after,guard⟩).run P W=.ok (.enter f al) W:=by
 subst e;simp only[execOp,resolve,hc,hx,Deferred.ofValue,Xz,Xy,Xx,invoke,en]
theorem ny(h:lS op a ρ){sf:SV}{g:Nat}{first captured args:List SV}(hsf:op [] x=some sf)(hg:callee sf=some (g,first,captured))(XY:opL op c.args.toList=some args) :
  ∃fv cv,a.eval x=.func (.func g) fv cv∧au ρ (first++args++captured) (fv++c.args.map a.eval++cv).toList:=by
 have hf:=h.get hsf;have ha:=ik h XY;unfold callee at hg;split at hg;obtain⟨e1,e2⟩:=F7 (Oi hg);obtain⟨e2,e3⟩:=F7 e2;subst e1 e2 e3;exact⟨#[],#[],hf,by simpa using ha⟩;obtain⟨e1,e2⟩:=F7 (Oi hg);obtain⟨e2,e3⟩:=F7 e2;subst e1 e2 e3;obtain⟨u,w,k1,k2,k3⟩:=hf;refine⟨_,_,k3,?_⟩;have:=bg (bg k1 ha) k2;simpa using this;cases hg
theorem Jl{l:List Nat}{t:Nat}(h:Jm l=some t):l=[t,t]:=by unfold Jm at h;split at h;split at h;rename_i b;obtain rfl:=Oi h;have:=Nb b;subst this;rfl;cases h;cases h
theorem QE{x:SV}(hD:MD C H nm t x y=some r):r.fr=true:=by unfold MD at hD;split at hD;cases hD;split at hD;split at hD;obtain rfl:=Oi hD;rfl;obtain rfl:=Oi hD;rfl;split at hD;split at hD;obtain rfl:=Oi hD;rfl;cases hD;cases hD;cases hD;cases hD
theorem Mu(hH:YH C H ρ W)(hf:r.fr=true->ρ.v nm=none)(h:lS op a ρ)(hD:Ga Γ op H nm c=some r)(ho:r.Ob)(hK:∀val W',eB C ρ W nm r val W'->K (a.put dst val) W'):c8 C.P C.co ⟨dst,.call c,ty,pos,after,guard⟩ a W K:=by
 unfold Ga at hD;split at hD
 ·rename_i x ZG;split at hD
  ·rename_i sf hsf;split at hD
   ·rename_i g first captured args hg XY
    split at hD;rename_i con hcon;split at hD;rename_i al hal;obtain rfl:=dG hal;obtain rfl:=yv hcon;obtain⟨fv,cv,Z1,X8⟩:=ny h hsf hg XY;have hcall:bj C.P C.co con.f (fv++c.args.map a.eval++cv).toList.toArray W λe W'=>∃val,e=.returned val∧eB C ρ W nm r val W':=(by split at hD;rename_i g hg;exact con.effOk g hg ρ W H nm _ _ r hH hf X8 hD ho;exact NI (nm:=nm) hH hf hD ho X8);unfold c8;rw[pq ZG Z1 con.en rfl];show bj _ _ _ _ _ _;have e:(fv++c.args.map a.eval++cv).toList.toArray=fv++c.args.map a.eval++cv:=(by simp);rw[e] at hcall;refine hcall.mono ?_;rintro e W' ⟨val,rfl,hp⟩;exact hK val W' hp;cases hD;cases hD
   cases hD
  cases hD
 rename_i ZG;split at hD;rename_i l XY;obtain⟨w,hw,hr⟩:=iS hD;obtain⟨y,k1,k2⟩:=OU (ty:=ty) (W:=W) hw (ik h XY);refine bx (v:=y) ?_ (hK _ _ (dj hH.hb (bp hr k1)));have e:(c.args.map a.eval).toList.toArray=c.args.map a.eval:=rfl;rw[e] at k2;simp only[execOp,resolve,ZG,Xz,Xy,Xx,invoke,builtin,k2];cases hD;rename_i ZG;split at hD;rename_i l XY;obtain⟨w,hw,hr⟩:=iS hD;obtain⟨y,k1,k2⟩:=Kl (ty:=ty) (W:=W) (C:=C) (ats:=c.argTypes) hw (ik h XY);refine bx (v:=y) ?_ (hK _ _ (dj hH.hb (bp hr k1)));have e:(c.args.map a.eval).toList.toArray=c.args.map a.eval:=rfl;rw[e,Xl rfl] at k2;simp only[execOp,resolve,ZG,Xz,Xy,Xx,invoke,builtin,k2];cases hD;rename_i ZG;split at hD;rename_i l XY;obtain⟨w,hw,hr⟩:=iS hD;obtain⟨y,k1,k2⟩:=Kl (ty:=ty) (W:=W) (C:=C) (ats:=c.argTypes) hw (ik h XY);refine bx (v:=y) ?_ (hK _ _ (dj hH.hb (bp hr k1)));have e:(c.args.map a.eval).toList.toArray=c.args.map a.eval:=rfl;rw[e,Xk (by simp)] at k2;simp only[execOp,resolve,ZG,Xz,Xy,Xx,invoke,builtin,k2];cases hD;rename_i ZG;split at hD;rename_i x y t XY ht;have hd:=ik h XY;obtain⟨u,us,e1,e2,e3⟩:=aF hd;obtain⟨v,vs',rfl,e5,e6⟩:=aF e3;obtain rfl:=bX e6;obtain⟨w,W',k1,k2⟩:∃w W',(Builtin.append_ #[t,t] ty #[u,v]).run C.P W=.ok w W'∧eB C ρ W nm r w W':=(by split at hD;exact Qz (ty:=ty) hH hD ho e2 e5;split at hD;rename_i r' hr;obtain rfl:=Oi hD;exact T1 (ty:=ty) hH (hf (QE hr)) hr ho e2 e5;exact QB (ty:=ty) hH (hf (QC hD)) hD ho e2 e5);have ht2:=Jl ht;have e7:c.args.map a.eval=#[u,v]:=(by apply Array.ext';rw[e1]);have e8:c.argTypes=#[t,t]:=(by apply Array.ext';rw[ht2]);refine fg (v:=w) ?_ (hK _ _ k2);simp only[execOp,resolve,ZG,e7,e8,Xz,Xy,Xx,invoke,builtin,k1];cases hD;rename_i ZG;split at hD;rename_i x t XY ht;have hd:=ik h XY;obtain⟨u,us,e1,e2,e3⟩:=aF hd;obtain rfl:=bX e3;obtain⟨W',k1,k2⟩:=clear_ok (nm:=nm) (ty:=ty) hH hD ho e2;have e7:c.args.map a.eval=#[u]:=(by apply Array.ext';rw[e1]);have e8:c.argTypes=#[t]:=(by apply Array.ext';rw[ht]);refine fg (v:=.tuple #[]) ?_ (hK _ _ k2);simp only[execOp,resolve,ZG,e7,e8,Xz,Xy,Xx,invoke,builtin,k1];cases hD;rename_i ZG;split at hD;rename_i x y t t2 XY ht;have hd:=ik h XY;obtain⟨u,us,e1,e2,e3⟩:=aF hd;obtain⟨v,vs',rfl,e5,e6⟩:=aF e3;obtain rfl:=bX e6;obtain⟨w,W',k1,k2⟩:∃w W',(Builtin.copy_ #[t,t2] ty #[u,v]).run C.P W=.ok w W'∧eB C ρ W nm r w W':=(by split at hD;exact LU (ty:=ty) (t2:=t2) hH hD ho e2 e5;exact PR (nm:=nm) (ty:=ty) (t2:=t2) hH hD ho e2 e5);have e7:c.args.map a.eval=#[u,v]:=(by apply Array.ext';rw[e1]);have e8:c.argTypes=#[t,t2]:=(by apply Array.ext';rw[ht]);refine fg (v:=w) ?_ (hK _ _ k2);simp only[execOp,resolve,ZG,e7,e8,Xz,Xy,Xx,invoke,builtin,k1];cases hD;cases hD
theorem vR{s:TypeId}{k fo:Nat}{fi:TI}{u v:SV}(hfi:mJ C s k=some (fo,fi))(h:lO u fo fi.sz=some v)(hx:den ρ u (a.eval x)) :
  ∃y,den ρ v y∧(execOp a.eval ⟨dst,.fieldAddr s x k,ty,pos,after,guard⟩).run C.P W=.ok (.value y) W:=by
 obtain⟨fs,f,i,d,e1,e2,e3,e4,e5,e6,e7⟩:=jh hfi;unfold lO at h;split at h;cases h;rename_i m hm;have key:∀{b off:Nat},a.eval x=.pointer (some ⟨b,off,none⟩)->(execOp a.eval ⟨dst,.fieldAddr s x k,ty,pos,after,guard⟩).run C.P W=.ok (.value (.pointer (some ⟨b,off+fo,none⟩))) W:=by intro b off e;have:=AT (dst:=dst) (ty:=ty) (pos:=pos) (after:=after) (guard:=guard) (w:=W) e e1 e2 e4 (by omega);rw[bO,e3] at this;exact this
 split at h;obtain rfl:=Oi h;obtain⟨b,hb,e⟩:=hx;exact⟨_,⟨b,hb,rfl⟩,key e⟩;obtain rfl:=Oi h;exact⟨_,rfl,key hx⟩;obtain rfl:=Oi h;obtain⟨b,o,us,e,k2,k3⟩:=hx;exact⟨_,⟨b,o,us,by rw[Nat.add_assoc],k2,k3⟩,key e⟩;obtain rfl:=Oi h;obtain⟨l,b,p1,po,p2,p3,p4,e⟩:=hx;exact⟨_,⟨l,b,p1,po,p2,p3,p4,by rw[Nat.add_assoc]⟩,key e⟩;obtain rfl:=Oi h;obtain⟨l,b,p1,p2,p3,p4,e⟩:=hx;exact⟨_,⟨l,b,p1,p2,p3,p4,by rw[Nat.add_assoc]⟩,key e⟩;cases h
theorem HU(hH:YH C H ρ W)(hf:r.fr=true->ρ.n nm=none)(h:lS op a ρ){t:Nat}{ps:List (Nat×SV)}(hp:opP op parts.toList=some ps)(hD:Dq C nm t len ps=some r)(hK:∀val W',eB C ρ W nm r val W'->K (a.put dst val) W'):c8 C.P C.co ⟨dst,.buildSlice t len parts,ty,pos,after,guard⟩ a W K:=by
 unfold Dq at hD;split at hD;cases hD;rename_i ti YD;split at hD;cases hD;rename_i e he;split at hD;cases hD;rename_i ei Yt;obtain⟨i1,d1,z1,-,Zk,-,-,-,Ze,-⟩:=(C.ty YD).ex;obtain⟨i2,d2,z2,hi2,ZN,YP,hz2,hzz2,-⟩:=(C.ty Yt).ex;obtain rfl:d1=.slice e:=by
  cases Y7:ti.k with
  | sl e2=>
   rw[Y7] at he Ze;obtain rfl:=Oi he;cases d1 with
   | slice e3=>simp only[aX,beq_iff_eq] at Ze;rw[Ze]
   | _=>simp[aX] at Ze
  | _=>rw[Y7] at he;cases he
 split at hD
 ·have hpn:parts.toList=[]:=by
   cases hl:parts.toList with
   | nil=>rfl
   | cons p q=>
    rw[hl] at hp;obtain⟨i,x⟩:=p;simp only[opP] at hp;split at hp;cases Oi hp;cases hp
  exact fg (uL Zk hi2 hpn) (hK _ _ (xJ hH.hb ((Gr.refl W).alloc _) (bp hD ⟨_,rfl⟩)))
 split at hD;rename_i b1 b2 b3;split at hD;rename_i l hl;split at hD;rename_i Yw;obtain rfl:=Oi hD;have hzd:=cg (ρ:=ρ) hzz2;have b3':=Nb b3;have hzl:z2.cells.size=i2.size:=(by have:=aB hzd;rw[YP,<-b3',<-this];simp);obtain⟨ls,k1,k2⟩:=mI h hp hl (tz (n:=len) hzd);refine fg (kh (ls:=ls.toArray) Zk hi2 hz2 ?_ ?_ hzl (by rw[YP];exact k2)) (hK _ _ (tE hH.hb (hf rfl) k1 (m3 Yw k1) ⟨W.heap.size,Names.gu,rfl⟩));rw[YP];intro e0;rw[e0] at b1;cases b1;rw[YP];have:=F4 b2;omega;cases hD;cases hD;cases hD
theorem OT{i:Nat}(hi:i<n)(hl:l.length=n*sz):SS n l sz i=chunk l sz i:=by unfold SS;split;obtain rfl:i=0:=(by omega);unfold chunk;rw[Nat.zero_mul,List.drop_zero,List.take_of_length_le (by omega)];rfl
theorem Dn(hH:YH C H ρ W)(h:lS op a ρ){t:Nat}{ps:List (Nat×SV)}(hp:opP op parts.toList=some ps)(hf:r.fr=true->ρ.v nm=none)(hD:yO C nm t len ps=some r)(hK:∀val W',eB C ρ W nm r val W'->K (a.put dst val) W'):c8 C.P C.co ⟨dst,.buildSlice t len parts,ty,pos,after,guard⟩ a W K:=by
 unfold yO at hD;split at hD;cases hD;rename_i ti YD;split at hD;cases hD;rename_i e he;split at hD;cases hD;rename_i ei Yt;obtain⟨i1,d1,z1,-,Zk,-,-,-,Ze,-⟩:=(C.ty YD).ex;obtain⟨i2,d2,z2,hi2,ZN,YP,hz2,hzz2,-⟩:=(C.ty Yt).ex;obtain rfl:d1=.slice e:=by
  cases Y7:ti.k with
  | sl e2=>
   rw[Y7] at he Ze;obtain rfl:=Oi he;cases d1 with
   | slice e3=>simp only[aX,beq_iff_eq] at Ze;rw[Ze]
   | _=>simp[aX] at Ze
  | _=>rw[Y7] at he;cases he
 split at hD;rename_i b1 b2 b3;split at hD;rename_i l hl;split at hD;rename_i Yw hpu hle;obtain rfl:=Oi hD;have hzd:=cg (ρ:=ρ) hzz2;have b3':=Nb b3;have hle:=Nb hle;have hzl:z2.cells.size=i2.size:=(by have:=aB hzd;rw[YP,<-b3',<-this];simp);obtain⟨ls,k1,k2⟩:=mI h hp hl (tz (n:=len) hzd);have hlen:=aB k1;have g:Gr W (W.alloc (.cells ls.toArray e)):=(Gr.refl W).alloc _;refine fg (kh (ls:=ls.toArray) Zk hi2 hz2 ?_ ?_ hzl (by rw[YP];exact k2)) (hK _ _ ?_);rw[YP];intro e0;rw[e0] at b1;cases b1;rw[YP];have:=F4 b2;omega;have YY:∀i c,¬ρ.z W.heap.size i c:=λi c h=>Nat.lt_irrefl _ (fU (hH.hb.zok _ i c h).1);refine⟨ρ.fZ nm ⟨nm,some ⟨W.heap.size,0,none⟩,len,len⟩,eR (l:=⟨nm,some ⟨W.heap.size,0,none⟩,len,len⟩) hH.hb (hf rfl) g (λ_ b o e0=>?_),λn sb h=>?_,?_⟩;obtain⟨rfl,-⟩:=Addr.mk.inj (Oi e0);exact⟨F2 _,by show W.heap.size<(W.heap.push _).size;simp⟩;obtain⟨rfl,rfl⟩:=F7 (Oi h);refine⟨_,Names.aQ,rfl,rfl,F2 _,λ_=>⟨W.heap.size,ls,rfl,Zq.new rfl,hlen.trans hle,m3 Yw k1,YY,λi hi=>⟨_,(OT hi hle).symm▸ji ei.sz i (aK (Names.iW (hf rfl)).zo _ _ (cJ _ _ hpu k1)),?_,λk c hc=>?_⟩⟩⟩;have:i*ei.sz+ei.sz<=len*ei.sz:=(by rw[<-Nat.succ_mul];exact Xo _ hi);simp only[List.length_take,List.length_drop];omega;rw[List.getElem?_take] at hc;split at hc;rw[List.getElem?_drop] at hc;simpa using hc;cases hc;exact⟨_,Names.aQ,rfl,by simp,F2 _,_,rfl,λ_=>⟨_,rfl,by simp⟩⟩;cases hD;cases hD;cases hD
theorem Dp(hH:YH C H ρ W)(h:lS op a ρ){t:Nat}{ps:List (Nat×SV)}(hp:opP op parts.toList=some ps)(hD:sP C t len ps=some r)(hK:∀val W',eB C ρ W nm r val W'->K (a.put dst val) W'):c8 C.P C.co ⟨dst,.buildSlice t len parts,ty,pos,after,guard⟩ a W K:=by
 unfold sP at hD;split at hD;cases hD;rename_i ti YD;split at hD;cases hD;rename_i e he;split at hD;cases hD;rename_i ei Yt;obtain⟨i1,d1,z1,-,Zk,-,-,-,Ze,-⟩:=(C.ty YD).ex;obtain⟨i2,d2,z2,hi2,ZN,YP,hz2,hzz2,-⟩:=(C.ty Yt).ex;obtain rfl:d1=.slice e:=by
  cases Y7:ti.k with
  | sl e2=>
   rw[Y7] at he Ze;obtain rfl:=Oi he;cases d1 with
   | slice e3=>simp only[aX,beq_iff_eq] at Ze;rw[Ze]
   | _=>simp[aX] at Ze
  | _=>rw[Y7] at he;cases he
 split at hD
 ·rename_i b1 b2 b3;split at hD
  ·rename_i l hl;split at hD
   ·rename_i Yw hpu hle;obtain rfl:=Oi hD;have hzd:=cg (ρ:=ρ) hzz2;have b3':=Nb b3;have hle:=Nb hle;have hzl:z2.cells.size=i2.size:=(by have:=aB hzd;rw[YP,<-b3',<-this];simp);obtain⟨ls,k1,k2⟩:=mI h hp hl (tz (n:=len) hzd);have hlen:=aB k1;have g:Gr W (W.alloc (.cells ls.toArray e)):=(Gr.refl W).alloc _;have Yr:∀(i:Nat) (c:Value),ls[i]? = some c->(W.alloc (.cells ls.toArray e)).cell? ⟨W.heap.size,i,none⟩=some c:=λi c hc=>(by rw[(Zq.new rfl:Zq (W.alloc (.cells ls.toArray e)) W.heap.size ls.toArray e).cell];simpa using hc);refine fg (kh (ls:=ls.toArray) Zk hi2 hz2 ?_ ?_ hzl (by rw[YP];exact k2)) (hK _ _ ?_);rw[YP];intro e0;rw[e0] at b1;cases b1;rw[YP];have:=F4 b2;omega;refine⟨ρ.kP λb i c=>b=W.heap.size∧ls[i]? = some c,⟨Names.bz,λ_ _ h=>.inl h,λ_ _ h=>.inl h,λb i c h=>?_,λ_ _=>rfl,g.os,g.tape,g.output,g.size,λb hb _=>Below.block g b hb,?_⟩,(λn sb h=>by cases h),⟨_,_,rfl,F2 _,λi hi=>⟨W.heap.size,0,_,rfl,ji ei.sz i (aK (Names.le.zo Names.bz) _ _ (cJ _ _ hpu k1)),?_,λk c hc=>?_⟩⟩⟩;rcases h with h|h;exact .inl h;exact .inr (by rw[h.1];exact F2 _)
    ·have h':=hH.hb.gr g;exact⟨h'.own,h'.low,λb i c h=>by
      rcases h with h|⟨rfl,h⟩
      exact h'.zok b i c h
      ·exact⟨Yr i c h,m3 Yw k1 c (Xu h)⟩,h'.grd⟩
    have:i*ei.sz+ei.sz<=len*ei.sz:=(by rw[<-Nat.succ_mul];exact Xo _ hi);simp only[List.length_take,List.length_drop];omega;refine .inr ⟨rfl,?_⟩;rw[List.getElem?_take] at hc;split at hc;rw[List.getElem?_drop] at hc;simpa using hc;cases hc
   cases hD
  cases hD
 cases hD
theorem Lu{c:Operand}{b:Bool}(h:a.eval c=.bool b):∀p,p∈exL c b->a.eval (.tmp p.1)=.bool p.2:=by intro p hp;cases c<;>first|(simp[exL] at hp;subst hp;exact h)|(simp[exL] at hp)
theorem Gl(hH:YH C H ρ W)(hf:r.fr=true->ρ.n nm=none∧ρ.v nm=none)(h:lS op a ρ){o:Oper}(Ya:ym o.op=true->o.dst=none)(hD:D Γ fz op H nm o.op=some r)(ho:r.Ob)(hK:∀val W',eB C ρ W nm r val W'->K (a.put o.dst val) W') :
  c8 C.P C.co o a W K:=by
 obtain⟨dst,oo,ty,pos,after,guard⟩:=o;have same:∀{v:SV} {y:Value},dv v=some r->den ρ v y->eB C ρ W nm r y W:=λhr hy=>dj hH.hb (bp hr hy);cases oo<;>simp only[D] at hD
 case move x=>
  split at hD;rename_i v hv;exact bx Fv (hK _ _ (same hD (h.get hv)));cases hD
 case assign x=>
  split at hD;rename_i v hv;exact bx wZ (hK _ _ (same hD (h.get hv)));cases hD
 case pick c x y=>
  split at hD;rename_i hc;have e:a.eval _=.bool _:=h.get hc;split at hD;rename_i v hv;exact bx (pn e) (hK _ _ (same hD (h _ _ _ hv (Lu e))));cases hD;rename_i hc;have e:a.eval _=.bool _:=h.get hc;split at hD;rename_i v hv;exact bx (pn e) (hK _ _ (same hD (h _ _ _ hv (Lu e))));cases hD;rename_i b t hc;have e:a.eval (.tmp t)=.bool _:=h.get hc;split at hD;rename_i u v hu hv;split at hD;rename_i z hz;refine bx (pn e) (hK _ _ (same hD (JR hz (λhb=>h _ _ _ hu ?_) (λhb=>h _ _ _ hv ?_))));intro p hp;obtain rfl:=List.mem_singleton.1 hp;rw[e,hb];intro p hp;obtain rfl:=List.mem_singleton.1 hp;rw[e,hb];cases hD;cases hD;cases hD
 case alloc t=>
  split at hD;rename_i ti YD;obtain rfl:=Oi hD;obtain⟨i,d,z,hi,ZI,hs,hz,Y2,hk,-⟩:=(C.ty YD).ex;have:=tE (t:=t) (v:=.p nm 0) hH.hb (hf rfl).1 (cg (ρ:=ρ) Y2) (l7 Y2) ⟨W.heap.size,Names.gu,rfl⟩;exact fg (Lt hi hz) (hK _ _ (by simpa using this));cases hD
 case box t x=>
  split at hD;rename_i v hv;split at hD;rename_i l hl;split at hD;rename_i Yw;obtain rfl:=Oi hD;have hc:=iZ hl (h.get hv);have:=tE (t:=t) (v:=.p nm 0) hH.hb (hf rfl).1 hc (m3 Yw hc) ⟨W.heap.size,Names.gu,rfl⟩;exact fg Tp (hK _ _ (by simpa using this));cases hD;cases hD;cases hD
 case build s parts=>
  split at hD
  ·rename_i ti ps YD hps;obtain⟨i,d,z,hi,ZI,hs,hz,Y2,hk,-⟩:=(C.ty YD).ex;split at hD
   ·rename_i fs Y7;split at hD
    ·rename_i l hl X8;rw[Y7] at hk;cases d with
     | struct fs'=>
      have hk2:(fs'.toList.map λf=>(f.offset,f.type))=fs:=(by simpa[aX] using hk);obtain⟨ls,k1,k2⟩:=AM h ZI hps hl (cg (ρ:=ρ) Y2);refine bx (v:=.agg ls.toArray) (Ls hi hz ZI ?_ (by simpa using k2)) (hK _ _ (same hD ⟨ls,k1,rfl⟩));intro f hf;exact Gi X8 (f.offset,f.type) (by rw[<-hk2];exact List.mem_map.2 ⟨f,hf,rfl⟩)
     | _=>simp[aX] at hk
    cases hD
   ·rename_i n e Y7;split at hD
    ·rename_i ei Yt;split at hD
     ·rename_i l hl;rw[Y7] at hk;obtain⟨i2,d2,z2,hi2,hdd2,YP,-⟩:=(C.ty Yt).ex;cases d with
      | array n' e'=>
       simp only[aX,I',beq_iff_eq] at hk;obtain⟨rfl,rfl⟩:=hk;obtain⟨ls,k1,k2⟩:=mI h hps hl (cg (ρ:=ρ) Y2);exact bx (v:=.agg ls.toArray) (AU hi hz ZI hi2 (by rw[YP];simpa using k2)) (hK _ _ (same hD ⟨ls,k1,rfl⟩))
      | _=>simp[aX] at hk
     cases hD
    cases hD
   cases hD
  cases hD
 case load t x=>
  split at hD;rename_i v hv;obtain⟨w,hw,hr⟩:=iS hD;obtain⟨u,k2,k3⟩:=Ah (dst:=dst) (ty:=ty) (pos:=pos) (after:=after) (guard:=guard) hH hw (h.get hv);exact bx k3 (hK _ _ (same hr k2));cases hD
 case store t x y=>
  obtain rfl:dst=none:=Ya rfl;split at hD;rename_i u v hu hv;obtain⟨W',k1,k2⟩:=GH (nm:=nm) (ty:=ty) (pos:=pos) (after:=after) (guard:=guard) hH hD ho (h.get hu) (h.get hv);unfold c8;rw[k1];exact hK undef W' k2;cases hD
 case fieldAddr s x k=>
  split at hD;rename_i u fo fi hu hfi;obtain⟨w,hw,hr⟩:=iS hD;obtain⟨y,k1,k2⟩:=vR (dst:=dst) (ty:=ty) (pos:=pos) (after:=after) (guard:=guard) (W:=W) hfi hw (h.get hu);exact bx k2 (hK _ _ (same hr k1));cases hD
 case field s x k=>
  split at hD
  ·rename_i l fo fi hx hfi;obtain⟨fs,f,i,d,e1,e2,e3,e4,e5,e6,e7⟩:=jh hfi;obtain⟨vs,hvs,e⟩:=h.get hx;split at hD
   ·rename_i YV;split at hD
    ·rename_i m hm;obtain⟨k1,k2⟩:=jc hm (bS fo hvs);refine bx (wY e e1 e2 (iQ e4 e5 (mD e7 YV))) (hK _ _ (same hD ⟨_,k1,?_⟩));rw[e3,e6]
     congr 1
     rw[List.length_drop] at k2;apply Array.ext';simp[List.take_drop,Nat.add_comm]
    cases hD
   rename_i YV;split at hD;rename_i c hc;obtain⟨v,hv,hdv⟩:=eu hvs hc;exact bx (wY e e1 e2 (ln e5 (im e7 YV).1 (im e7 YV).2 (by simpa[e3] using hv))) (hK _ _ (same hD hdv));cases hD
  cases hD
 case binOp o t x y yt=>
  split at hD;rename_i u v hu hv;split at hD;rename_i r' YJ;obtain rfl:=Oi hD;obtain⟨y',k1,k2⟩:=Qr (C:=C) (W:=W) (dst:=dst) (ty:=ty) (yt:=yt) (t:=t) (pos:=pos) (after:=after) (guard:=guard) YJ ho (h.get hu) (h.get hv);exact bx k2 (hK _ _ (dj hH.hb k1));split at hD;rename_i r' YJ;obtain⟨y',k1,k2⟩:=Mw (C:=C) (W:=W) (dst:=dst) (ty:=ty) (yt:=yt) (t:=t) (pos:=pos) (after:=after) (guard:=guard) YJ (h.get hu) (h.get hv);exact bx k2 (hK _ _ (same hD k1));split at hD;rename_i r' YJ;obtain⟨y',k1,k2⟩:=QI (C:=C) (W:=W) (dst:=dst) (ty:=ty) (yt:=yt) (t:=t) (pos:=pos) (after:=after) (guard:=guard) YJ (h.get hu) (h.get hv);exact bx k2 (hK _ _ (same hD k1));obtain⟨w,hw,hr⟩:=iS hD;obtain⟨y',k1,k2⟩:=Oj (C:=C) (W:=W) (dst:=dst) (ty:=ty) (yt:=yt) (t:=t) (pos:=pos) (after:=after) (guard:=guard) hw (h.get hu) (h.get hv);exact bx k2 (hK _ _ (same hr k1));cases hD
 case makeMap t rsv=>
  cases rsv with
  | some _=>cases hD
  | none=>
   have hD:qf C nm t=some r:=hD;exact fg (v:=.map (some W.heap.size)) (w':=W.alloc (.map #[] 0)) rfl (hK _ _ (Hb hH (hf (Hc hD)).1 hD))
 case lookup t x i ok=>
  split at hD;rename_i sx si hx hi;obtain⟨y,k1,k2⟩:=Hd hH hD ho (h.get hx) (h.get hi);exact bx (by simp only[execOp,Xz,k1,Xx,Xy]) (hK _ _ (dj hH.hb k2));cases hD
 case mapUpdate t x i v=>
  split at hD;rename_i sx si sv hx hi hv;obtain rfl:dst=none:=Ya rfl;obtain⟨W',k1,k2⟩:=Ha hH hD ho (h.get hx) (h.get hi) (h.get hv);unfold c8;have k3:(execOp a.eval ⟨none,.mapUpdate t x i v,ty,pos,after,guard⟩).run C.P W=.ok .skip W':=(by simp only[execOp,Xz,k1,Xx,Xy]);rw[k3];exact hK undef W' (k2 nm);cases hD
 case makeSlice t x y=>
  split at hD;rename_i u v hu hv;obtain⟨w,W',k1,k2⟩:=OM hH (hf (Kp hD)).2 hD ho (h.get hu) (h.get hv);refine fg (v:=w) ?_ (hK _ _ k2);simp only[execOp,Xz,k1,Xx,Xy];cases hD
 case unOp o t x=>
  split at hD;rename_i u hu;obtain⟨y',k1,k2⟩:=RY (C:=C) (W:=W) (dst:=dst) (ty:=ty) (t:=t) (pos:=pos) (after:=after) (guard:=guard) hD ho (h.get hu);exact bx k2 (hK _ _ (dj hH.hb k1));cases hD
 case extract x k=>
  split at hD;rename_i l hl;split at hD;rename_i v hv;obtain⟨vs,hvs,e⟩:=h.get hl;obtain⟨u,hu,hdu⟩:=eu hvs hv;exact bx (uK e (by simpa using hu)) (hK _ _ (same hD hdu));cases hD;cases hD
 case nilCheck x=>
  split at hD;rename_i n off hx;obtain⟨b,hb,e⟩:=h.get hx;exact bx (jQ e) (hK _ _ (same hD ⟨b,hb,rfl⟩));rename_i x' off hx;obtain⟨b,o,us,e,k2,k3⟩:=h.get hx;exact bx (jQ e) (hK _ _ (same hD ⟨b,o,us,rfl,k2,k3⟩));rename_i m e0 sz i off hx;obtain⟨l,b,p1,po,p2,p3,p4,e⟩:=h.get hx;exact bx (jQ e) (hK _ _ (same hD ⟨l,b,p1,po,p2,p3,p4,rfl⟩));rename_i m i sz j off hx;obtain⟨l,b,p1,p2,p3,p4,e⟩:=h.get hx;exact bx (jQ e) (hK _ _ (same hD ⟨l,b,p1,p2,p3,p4,rfl⟩));obtain rfl:=Oi hD;exact False.elim ho;cases hD
 case makeFunc fn first captured=>
  split at hD;rename_i x y hx hy;refine bx rG (hK _ _ (same hD ?_));have h1:=ik h hx;have h2:=ik h hy;exact⟨_,_,h1,h2,rfl⟩;cases hD
 case call c=>exact Mu hH (λh=>(hf h).2) h hD ho hK
 case convert src dst' x=>
  split at hD;rename_i u hu;obtain⟨y',k1,k2⟩:=LY (C:=C) (W:=W) (dst:=dst) (ty:=ty) (pos:=pos) (after:=after) (guard:=guard) hD ho (h.get hu);exact bx k2 (hK _ _ (dj hH.hb k1));cases hD
 case buildSlice t len parts=>
  split at hD;rename_i ps hps;split at hD;split at hD;exact Dn hH h hps (λh=>(hf h).2) hD hK;exact HU hH (λh=>(hf h).1) h hps hD hK;exact Dp hH h hps hD hK;cases hD
 case indexAddr t x i=>
  split at hD;rename_i u v hu hv;obtain⟨y',k1,k2⟩:=LA (dst:=dst) (ty:=ty) (pos:=pos) (after:=after) (guard:=guard) hH hD ho (h.get hu) (h.get hv);exact bx k2 (hK _ _ (dj hH.hb k1));cases hD
 case index t x i=>
  split at hD;rename_i u v hu hv;have lit:od (um C t u v)=some r->c8 C.P C.co ⟨dst,.index t x i,ty,pos,after,guard⟩ a W K:=λYJ=>(by obtain⟨w,hw,hr⟩:=iS YJ;obtain⟨y',k1,k2⟩:=Hl (W:=W) (dst:=dst) (ty:=ty) (pos:=pos) (after:=after) (guard:=guard) hw (h.get hu) (h.get hv);exact bx k2 (hK _ _ (same hr k1)));split at hD;exact lit hD;split at hD;rename_i r' YJ;obtain rfl:=Oi hD;obtain⟨y',k1,k2⟩:=Hk (W:=W) (dst:=dst) (ty:=ty) (pos:=pos) (after:=after) (guard:=guard) YJ ho (h.get hu) (h.get hv);exact bx k2 (hK _ _ (dj hH.hb k1));exact lit hD;cases hD
 case slice t x low high max=>
  split at hD;rename_i u lo hi mx hu h1 h2 h3;have sl:tj C t u lo hi mx=some r->c8 C.P C.co ⟨dst,.slice t x low high max,ty,pos,after,guard⟩ a W K:=λhD=>(by obtain⟨y',k1,k2⟩:=GL (W:=W) (dst:=dst) (ty:=ty) (pos:=pos) (after:=after) (guard:=guard) h hD ho (h.get hu) h1 h2 h3;exact bx k2 (hK _ _ (dj hH.hb k1)));split at hD;split at hD;rename_i r' hr;obtain rfl:=Oi hD;obtain⟨y',k1,k2⟩:=GK (W:=W) (dst:=dst) (ty:=ty) (pos:=pos) (after:=after) (guard:=guard) hH h hr ho (h.get hu) h1 h2 h3;exact bx k2 (hK _ _ (dj hH.hb k1));exact sl hD;exact sl hD;cases hD
 all_goals cases hD
theorem g8:∀{l:List SV} {vs:List Value},xT l=true->au ρ l vs->∀c∈vs,AF c
 | [],vs,_,hd=>by obtain rfl:=bX hd;exact λc h=>by cases h
 | x::r,vs,h,hd=>by obtain⟨u,us,rfl,d1,d2⟩:=aF hd;simp only[xT] at h;intro c hc;split at h;rename_i p hp;obtain⟨k,n⟩:=p;rcases Xq.1 hc with rfl|hc;rw[SV.int?_den hp d1];trivial;exact g8 h d2 c hc;split at h;rename_i b hb;rcases Xq.1 hc with rfl|hc;rw[SV.bool?_den hb d1];trivial;exact g8 h d2 c hc;split at h;rename_i ht;unfold SV.txt at ht;split at ht;obtain rfl:=d1;rcases Xq.1 hc with rfl|hc;trivial;exact g8 h d2 c hc;cases ht;cases h
theorem HZ{m:Bool}{o:BinOp}{u v:SV}(h:My m o u v=some r):∃k n k' n',u.int? = some (k,n)∧v.int? = some (k',n'):=by
 unfold My Qu at h;split at h;all_goals
  split at h;rename_i k p k' q hp hq;exact⟨k,p,k',q,hp,hq⟩;cases h
theorem H6{o:BinOp}{u v w:SV}{x y:Value}(h:MH C o t u v=some w)(hx:den ρ u x)(hy:den ρ v y):(o=.eql∨o=.neq)∧rC x∧rC y:=by unfold MH at h;split at h;split at h;split at h;rename_i heq YV;obtain⟨us,hus,rfl⟩:=hx;obtain⟨vs,hvs,rfl⟩:=hy;exact⟨.inl rfl,λc hc=>g8 (fR YV).1 hus c (by simpa using hc),λc hc=>g8 (fR (fR YV).2).1 hvs c (by simpa using hc)⟩;cases h;cases h;split at h;split at h;rename_i heq YV;obtain⟨us,hus,rfl⟩:=hx;obtain⟨vs,hvs,rfl⟩:=hy;exact⟨.inr rfl,λc hc=>g8 (fR YV).1 hus c (by simpa using hc),λc hc=>g8 (fR (fR YV).2).1 hvs c (by simpa using hc)⟩;cases h;cases h;cases h
theorem VT(h:lS op a ρ){o:Oper}(hD:D Γ fz op H nm o.op=some r):NS C.P (execOp a.eval o):=by
 obtain⟨dst,oo,ty,pos,after,guard⟩:=o;cases oo
 case move=>trivial
 case assign=>trivial
 case pick=>exact aa (bI _) λ_=>trivial
 case alloc=>exact aa (zY _) λ_=>trivial
 case box=>exact aa (Sx _ _) λ_=>trivial
 case build=>exact aa (Kd _ _) λ_=>trivial
 case buildSlice=>exact aa (vJ _ _ _) λ_=>trivial
 case load=>exact aa (qd _ _) λ_=>trivial
 case store=>exact aa (lz _ _ _) λ_=>trivial
 case extract=>exact aa (tP _ _) λ_=>trivial
 case unOp=>exact aa (zQ _ _) λ_=>trivial
 case makeFunc=>trivial
 case makeSlice=>exact aa (xX _ _ _) λ_=>trivial
 case slice=>exact aa (oA _ _ _ _ _) λ_=>trivial
 case field=>exact aa (Kc _ _ _) λ_=>trivial
 case indexAddr=>exact aa (tJ _ _ _) λ_=>trivial
 case index=>exact aa (zV _ _ _) λ_=>trivial
 case makeMap t rs=>
  cases rs with
  | some _=>cases hD
  | none=>exact aa (rq t) λ_=>trivial
 case nilCheck x=>
  simp only[D] at hD;have key:(∃p,a.eval x=.pointer (some p))->NS C.P (execOp a.eval ⟨dst,.nilCheck x,ty,pos,after,guard⟩):=λ⟨p,e⟩=>(by simp only[execOp,e];trivial);split at hD;rename_i hx;obtain⟨b,-,e⟩:=h.get hx;exact key ⟨_,e⟩;rename_i hx;obtain⟨b,o,us,e,-⟩:=h.get hx;exact key ⟨_,e⟩;rename_i hx;obtain⟨l,b,p1,po,p2,p3,p4,e⟩:=h.get hx;exact key ⟨_,e⟩;rename_i hx;obtain⟨l,b,p1,p2,p3,p4,e⟩:=h.get hx;exact key ⟨_,e⟩;rename_i hx;have e:a.eval x=.pointer none:=h.get hx;simp only[execOp,e];trivial;cases hD
 case fieldAddr s x k=>
  simp only[D] at hD;split at hD;rename_i u fo fi hu hfi;obtain⟨w,hw,-⟩:=iS hD;obtain⟨fs,f,i,d,e1,e2,e3,e4,e5,e6,e7⟩:=jh hfi;unfold lO at hw;split at hw;cases hw;rename_i m hm;exact aa (tO e1 e2 e4 (by omega)) λ_=>trivial;cases hD
 case convert src dst' x=>
  simp only[D] at hD;split at hD;rename_i u hu;unfold FH at hD;split at hD;rename_i ti hs YD;split at hD;rename_i k hk;split at hD;rename_i k' n hn;have e:=SV.int?_den hn (h.get hu);obtain⟨i,d,z,hi,ZI,Zs,hz,Y2,ZT,-⟩:=(C.ty YD).ex;rw[hk] at ZT;have hd:∃k0,d=.int k0:=(by cases d<;>first|exact⟨_,rfl⟩|cases ZT);obtain⟨k0,rfl⟩:=hd;refine aa ?_ λ_=>trivial;rw[e];exact tT ZI;cases hD;cases hD;cases hD;cases hD
 case binOp o t x y yt=>
  simp only[D] at hD;have key:NS C.P (binOp o t (a.eval x) (a.eval y))->NS C.P (execOp a.eval ⟨dst,.binOp o t x y yt,ty,pos,after,guard⟩):=λk=>aa (aa (oB _ _ _ _ _ _) λ_=>k) λ_=>trivial;split at hD;rename_i u v hu hv;split at hD;rename_i r' YJ;obtain⟨k,n,k',n',e1,e2⟩:=HZ YJ;refine key ?_;rw[SV.int?_den e1 (h.get hu),SV.int?_den e2 (h.get hv)];exact qe _ _ _ _ _ _;split at hD;rename_i r' YJ;unfold Gb at YJ;split at YJ;rename_i e1 e2 _ _;refine key ?_;rw[SV.bool?_den e1 (h.get hu),SV.bool?_den e2 (h.get hv)];exact oC (.inl rfl) trivial trivial;rename_i e1 e2 _ _;refine key ?_;rw[SV.bool?_den e1 (h.get hu),SV.bool?_den e2 (h.get hv)];exact oC (.inr rfl) trivial trivial;cases YJ;split at hD;rename_i r' YJ;obtain⟨e1,e2,e3⟩:=H6 YJ (h.get hu) (h.get hv);exact key (oC e1 e2 e3);obtain⟨w,hw,-⟩:=iS hD;unfold Ol at hw;split at hw;rename_i b ti hb hn YD;refine key ?_;rw[wL hn (h.get hv)];obtain⟨p,e1,-⟩:=wq hb (h.get hu);rw[e1];split at hw;exact aa (o8 _ _ _) λ_=>trivial;exact aa (o8 _ _ _) λ_=>trivial;cases hw;cases hw;cases hD
 case lookup t x i ok=>
  simp only[D] at hD;split at hD;rename_i sx si hx hi;unfold ye at hD;split at hD;split at hD;rename_i k' q h1 hq;refine aa ?_ λ_=>trivial;rw[SV.key?_den hq (h.get hi)];exact CN _ _ (Aq _ _) _;cases hD;cases hD;cases hD
 case mapUpdate t x i v=>
  simp only[D] at hD;split at hD;rename_i sx si sv hx hi hv;unfold yd at hD;split at hD;split at hD;rename_i k' q h1 hq;refine aa ?_ λ_=>trivial;rw[SV.key?_den hq (h.get hi)];exact vI _ _ (Aq _ _) _;cases hD;cases hD;cases hD
 case call c=>
  simp only[D] at hD;unfold Ga at hD;have blt:∀b,c.callee=.builtin b->(∀(ats:Array TypeId) (t:TypeId) (cs:Array Bool) (args:Array Value),NS C.P (builtin b ats t cs args))->NS C.P (execOp a.eval ⟨dst,.call c,ty,pos,after,guard⟩):=λb e k=>(by simp only[execOp,resolve,e];exact k _ _ _ _);split at hD
  ·rename_i x ZG;split at hD
   ·rename_i sf hsf;split at hD
    ·rename_i g first captured args hg XY
     split at hD;rename_i con hcon;obtain rfl:=yv hcon;obtain⟨fv,cv,Z1,-⟩:=ny h hsf hg XY;exact pb ZG Z1 con.ns;cases hD
    cases hD
   cases hD
  rename_i e;exact blt _ e λ_ _ _ _=>aa (Kb _ _ _) λ_=>trivial;rename_i e;exact blt _ e λ_ _ _ _=>aa (Su _ _ _) λ_=>trivial;rename_i e;exact blt _ e λ_ _ _ _=>aa (Ss _ _ _) λ_=>trivial;rename_i e;exact blt _ e λ_ _ _ _=>aa (wz _ _ _) λ_=>trivial;rename_i e;exact blt _ e λ_ _ _ _=>aa (U8 _ _ _) λ_=>trivial;rename_i e;exact blt _ e λ_ _ _ _=>aa (OH _ _ _) λ_=>trivial;cases hD
 all_goals cases hD
end
end Go.Proofs.YtmdpdknpapjchaaGreatDoor
