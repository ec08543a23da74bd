/- A symbolic executor with lists, 10. -/
import Derived.Test.YtgigkennhdolpaaGreatDoorM8
import Derived.Laws.MakeOwn
namespace Go.Proofs.YtgigkennhdolpaaGreatDoor
open Go.RowKit
def wO:Op->Bool
 | .store ..=>true
 | .mapUpdate ..=>true
 | _=>false
section
variable {PP:Program}{C:Cx PP}{Γ:List (UW C)}{op:ZN}{a:Act}{ρ:Names}{W W':World}{H:bc}{nm:Nat}{K:Act->World->Prop}{Q:Exit->Act->World->Prop}
theorem oG{t ty:TypeId}{x y:Operand}{pos:String}{after:Array Edge}{guard:Option (Nat×Bool)}{b off:Nat}{bt:TypeId}{u:List Value}{ti:TI}(VL:look C.T t=some ti)(e:a.eval x=.pointer (some ⟨b,off,none⟩))(hb:Xi W b u.toArray bt)
  (hl:(a.eval y).cells.toList.length=ti.sz) (hf:off+ti.sz<=u.length) (h1:∀c∈(a.eval y).cells.toList,c.oneCell'=true) :
  (execOp a.eval ⟨none,.store t x y,ty,pos,after,guard⟩).run C.P W=.ok .skip (W.setRow b (u.take off++(a.eval y).cells.toList++u.drop (off+ti.sz)).toArray):=by
 obtain⟨i,d,z,hi,Xb,Xl,hz,Wo,hk,-⟩:=(C.ty VL).ex;have U2:¬((a.eval y).cells.size≠i.size):=by rw[Xl];simpa using hl
 have U7:=run_storeCells_at (P:=C.P) b off bt (a.eval y).cells.toList 0 u.toArray W hb (by simp at hl ⊢;omega) h1;simp only[execOp,e,Instr.storeAt,Instr.sureAddr,storeVar,sizeOf,typeInfo,UQ,UP,run_program,UO,hi,UC U2,U7];simp only[Nat.add_zero,hl]
theorem fF.map{q:LV}{sz:Nat}{f f':Nat->List SV}{t:TypeId}(h:fF ρ W q sz f t)(hf:∀j,j<q.N->∀us,ao ρ.zo (f j) us->ao ρ.zo (f' j) us):fF ρ W q sz f' t:=
 ⟨h.1,λhc=>let ⟨b,u,k1,k2,k3,k4,k5,k6⟩:=h.2 hc;⟨b,u,k1,k2,k3,k4,k5,λi hi=>let ⟨us,q1,q2,q3⟩:=k6 i hi;⟨us,hf i hi us q1,q2,q3⟩⟩⟩
theorem EU(hH:VY C H ρ W){t ty:TypeId}{x y:Operand}{pos:String}{after:Array Edge}{guard:Option (Nat×Bool)}{u v:SV}{r:DR}(hD:AT C H t u v=some r)(ho:r.Ob)(hx:den ρ u (a.eval x))(hy:den ρ v (a.eval y)) :
  ∃W',(execOp a.eval ⟨none,.store t x y,ty,pos,after,guard⟩).run C.P W=.ok .skip W'∧fX C ρ W nm r undef W':=by
 unfold AT at hD;split at hD
 ·rename_i ti l VL hl;have hc:=iQ hl hy;have hlen:=aF hc;split at hD
  ·rename_i b1 b2;have b1:=Nb b1;have VF:=oi b2 hc;split at hD;rename_i n off;split at hD;rename_i cs bt Xg;split at hD;rename_i b3;have b3:=L' b3;split at hD;rename_i Yi XF;obtain rfl:=Oi hD;obtain⟨b,hb,e⟩:=hx;obtain⟨b',us,k1,k2,k3,k4,k5⟩:=hH.blk n _ (kS Xg);rw[hb] at k1;obtain rfl:=Oi k1;have hlen2:=aF k2;refine⟨_,oG VL e k3 (by omega) (by omega) VF,ρ,mK hH.hb (.inl hb) k5,λn' VC h'=>?_,rfl⟩;obtain⟨rfl,rfl⟩:=P' (Oi h');refine⟨b,_,hb,?_,setRow_heap W b _ _ _ _ k3,λc VU=>?_,k5⟩;rw[dI XF,<-b1];exact bg (bg (di _ k2) hc) (bX _ k2);rcases UJ.1 VU with VU|VU;rcases UJ.1 VU with VU|VU;exact k4 c (List.mem_of_mem_take VU);exact VF c VU;exact k4 c (List.mem_of_mem_drop VU);cases hD;cases hD;cases hD
   ·rename_i m e sz i off;split at hD
    ·rename_i N h bt Xg hpu;split at hD
     ·rename_i c YT;split at hD
      ·rename_i b3 b4;have b3:=Nb b3;have b4:=L' b4;obtain rfl:=Oi hD;obtain⟨lv,b,p1,po,p2,p3,p4,ee⟩:=hx;obtain⟨lv',q1,q2,q3,q4,q5⟩:=hH.blk m _ (rq Xg);rw[p1] at q1;obtain rfl:=Oi q1;obtain⟨b',u,s1,s2,s3,s4,s5,s6⟩:=q5 (by omega);rw[p4] at s1;obtain rfl:b=b':=(by injection s1 with s1;injection s1);have Wh:bY ρ m b:=.inr (.inl ⟨e,lv,0,p1,q2,by omega,p4⟩);have hmul:i*sz+sz<=lv.cap*sz:=(by rw[<-Nat.succ_mul];exact UG _ (by omega));have hti2:ti.sz=l.length:=b1.symm;have ZX:(u.take (i*sz+off)).length=i*sz+off:=(by rw[List.length_take];omega);refine⟨_,oG VL ee s2 (by omega) (by omega) VF,ρ,mK hH.hb Wh s5,λn' VC h'=>?_,rfl⟩;obtain⟨rfl,rfl⟩:=P' (Oi h');refine⟨lv,p1,q2,q3,q4,λ_=>⟨b,_,p4,setRow_heap W b _ _ _ _ s2,?_,λc VU=>?_,s5,λj hj=>?_⟩⟩;simp only[List.length_append,List.length_take,List.length_drop];omega;rcases UJ.1 VU with VU|VU;rcases UJ.1 VU with VU|VU;exact s4 c (List.mem_of_mem_take VU);exact VF c VU;exact s4 c (List.mem_of_mem_drop VU);obtain⟨us,k1,k2,k3⟩:=s6 j hj;have hget:∀q:Nat,(u.take (i*sz+off)++(a.eval y).cells.toList++u.drop (i*sz+off+ti.sz))[q]? = if q<i*sz+off then u[q]? else if q<i*sz+off+ti.sz then(a.eval y).cells.toList[q-(i*sz+off)]? else u[q]?:=by
        intro q;split;rw[List.append_assoc,M' (by omega),UF (by omega)];split;rw[List.append_assoc,O' (by omega),ZX,M' (by omega)];rw[List.append_assoc,O' (by omega),ZX,O' (by omega),List.getElem?_drop]
        congr 1
        omega
       cases XV:Nat.beq j i with
       | true=>
        have:=Nb XV;subst this;have WS:ao ρ.zo c (us.take off++(a.eval y).cells.toList++us.drop (off+l.length)):=(by rw[dI YT];exact bg (bg (di _ k1) (cK _ _ hpu hc)) (bX _ k1));refine⟨_,by dsimp only;rw[XV];exact fQ _ _ _ WS,by rw[<-b3];exact aF WS,λq cc hq=>?_⟩;have U8:(us.take off).length=off:=(by rw[List.length_take];omega);rw[hget];by_cases h1:q<off;rw[UD (by omega)];rw[List.append_assoc,M' (by omega),UF h1] at hq;exact k3 q cc hq;rw[UC (by omega)];rw[List.append_assoc,O' (by omega),U8] at hq;by_cases h2:q<off+l.length;rw[UD (by omega)];rw[M' (by omega)] at hq;rw[show j*sz+q-(j*sz+off)=q-off by omega];exact hq;rw[UC (by omega)];rw[O' (by omega),List.getElem?_drop] at hq;rw[show off+l.length+(q-off-(a.eval y).cells.toList.length)=q by omega] at hq;exact k3 q cc hq
       | false=>
        have U2:j≠i:=(by rintro rfl;rw[UN] at XV;cases XV);refine⟨us,by dsimp only;rw[XV];exact cL _ _ _ (ho j hj) k1,k2,λq cc hq=>?_⟩;have hql:q<sz:=(by rw[<-k2];exact(J'.1 hq).1);rw[hget];rcases Nat.lt_or_gt_of_ne U2 with h1|h1;have:j*sz+sz<=i*sz:=(by rw[<-Nat.succ_mul];exact UG _ h1);rw[UD (by omega)];exact k3 q cc hq;have:i*sz+sz<=j*sz:=(by rw[<-Nat.succ_mul];exact UG _ h1);rw[UC (by omega),UC (by omega)];exact k3 q cc hq
      cases hD
     cases hD
    cases hD
   ·rename_i m i sz j off;split at hD
    ·rename_i e esz N h p g tk bt Xg hpu;split at hD
     ·rename_i c YT;split at hD
      ·rename_i b3 b4;have b3:=Nb b3;have b4:=L' b4;obtain rfl:=Oi hD;have ho:∀a,a<N->∀b,b<(g a).1->fE c ((g a).2 b):=ho;obtain⟨q,b,p1,p2,p3,p4,ee⟩:=hx;obtain⟨lv,K⟩:=hH.blk m _ (oz Xg);have hi:i<N:=Nat.lt_of_not_le λh=>(by rw[K.no i h] at p1;cases p1);obtain⟨q',r0,r1,r2,r3⟩:=K.kid i hi;rw[p1] at r0;obtain rfl:=Oi r0;obtain⟨b',u,s1,s2,s3,s4,s5,s6⟩:=r3 (by omega);rw[p4] at s1;obtain rfl:b=b':=(by injection s1 with s1;injection s1);have Wh:bY ρ m b:=.inr (.inr ⟨i,q,0,p1,by omega,p4⟩);have hmul:j*sz+sz<=q.cap*sz:=(by rw[<-Nat.succ_mul];exact UG _ (by omega));have hti2:ti.sz=l.length:=b1.symm;have ZX:(u.take (j*sz+off)).length=j*sz+off:=(by rw[List.length_take];omega);refine⟨_,oG VL ee s2 (by omega) (by omega) VF,ρ,mK hH.hb Wh s5,λn' VC h'=>?_,rfl⟩;obtain⟨rfl,rfl⟩:=P' (Oi h');refine⟨lv,K.hv,K.ho,K.hN,K.hle,λhc=>?_,λi' VZ=>?_,K.no,K.ne⟩;obtain⟨bb,cur,t1,t2,t3,t4,t5,t6,t7,t8⟩:=K.row hc;have U2:bb≠b:=λe=>t8 i q b p1 (by omega) p4 e.symm;exact⟨bb,cur,t1,(eQ U2).trans t2,t3,t4,t5,t6,t7,t8⟩;obtain⟨q',w1,w2,w3⟩:=K.kid i' VZ;refine⟨q',w1,w2,?_⟩;cases hii:Nat.beq i' i with
       | false=>
        have U2:i'≠i:=(by rintro rfl;rw[UN] at hii;cases hii);have:=w3.keep (US:=ρ) (W':=W.setRow b (u.take (j*sz+off)++(a.eval y).cells.toList++u.drop (j*sz+off+ti.sz)).toArray) rfl λb2 h1 h2=>eQ λe2=>U2 (K.ne i' i q' q b2 w1 p1 h1 (by omega) h2 (by rw[e2];exact p4));refine this.map λk hk us ZT=>?_;exact cL _ _ _ (ho i' VZ k (by omega)) ZT
       | true=>
       have:=Nb hii;subst this;rw[p1] at w1;obtain rfl:=Oi w1;refine⟨p3,λ_=>⟨b,_,p4,setRow_heap W b _ _ _ _ s2,?_,λc VU=>?_,s5,λk hk=>?_⟩⟩;simp only[List.length_append,List.length_take,List.length_drop];omega;rcases UJ.1 VU with VU|VU;rcases UJ.1 VU with VU|VU;exact s4 c (List.mem_of_mem_take VU);exact VF c VU;exact s4 c (List.mem_of_mem_drop VU);obtain⟨us,k1,k2,k3⟩:=s6 k hk;have hget:∀q:Nat,(u.take (j*sz+off)++(a.eval y).cells.toList++u.drop (j*sz+off+ti.sz))[q]? = if q<j*sz+off then u[q]? else if q<j*sz+off+ti.sz then(a.eval y).cells.toList[q-(j*sz+off)]? else u[q]?:=by
        intro q;split;rw[List.append_assoc,M' (by omega),UF (by omega)];split;rw[List.append_assoc,O' (by omega),ZX,M' (by omega)];rw[List.append_assoc,O' (by omega),ZX,O' (by omega),List.getElem?_drop]
        congr 1
        omega
       cases XV:Nat.beq k j with
       | true=>
        have:=Nb XV;subst this;have WS:ao ρ.zo c (us.take off++(a.eval y).cells.toList++us.drop (off+l.length)):=(by rw[dI YT];exact bg (bg (di _ k1) (cK _ _ hpu hc)) (bX _ k1));refine⟨_,by dsimp only;rw[XV];exact fQ _ _ _ WS,by rw[<-b3];exact aF WS,λq cc hq=>?_⟩;have U8:(us.take off).length=off:=(by rw[List.length_take];omega);rw[hget];by_cases h1:q<off;rw[UD (by omega)];rw[List.append_assoc,M' (by omega),UF h1] at hq;exact k3 q cc hq;rw[UC (by omega)];rw[List.append_assoc,O' (by omega),U8] at hq;by_cases h2:q<off+l.length;rw[UD (by omega)];rw[M' (by omega)] at hq;rw[show k*sz+q-(k*sz+off)=q-off by omega];exact hq;rw[UC (by omega)];rw[O' (by omega),List.getElem?_drop] at hq;rw[show off+l.length+(q-off-(a.eval y).cells.toList.length)=q by omega] at hq;exact k3 q cc hq
       | false=>
        have U2:k≠j:=(by rintro rfl;rw[UN] at XV;cases XV);refine⟨us,by dsimp only;rw[XV];exact cL _ _ _ (ho i' VZ k (by omega)) k1,k2,λq cc hq=>?_⟩;have hql:q<sz:=(by rw[<-k2];exact(J'.1 hq).1);rw[hget];rcases Nat.lt_or_gt_of_ne U2 with h1|h1;have:k*sz+sz<=j*sz:=(by rw[<-Nat.succ_mul];exact UG _ h1);rw[UD (by omega)];exact k3 q cc hq;have:j*sz+sz<=k*sz:=(by rw[<-Nat.succ_mul];exact UG _ h1);rw[UC (by omega),UC (by omega)];exact k3 q cc hq
      cases hD
     cases hD
    cases hD
   cases hD
  cases hD
 cases hD
theorem EG{z:Array Value}{n i q:Nat}(hi:i<n)(hq:q<z.size):(Builtin.zeroCells z n).toList[i*z.size+q]? = z[q]?:=by
 have h1:i*z.size+q<n*z.size:=by have:i*z.size+z.size<=n*z.size:=(by rw[<-Nat.succ_mul];exact UG _ hi);omega
 have h2:(i*z.size+q)%z.size=q:=by rw[Nat.mul_comm,Nat.mul_add_mod,Nat.mod_eq_of_lt hq]
 simp[Builtin.zeroCells,h1,h2,hq]
theorem Xh.Ps{US:Names}{m:Nat}{fr:Bool}(e:Xh C ρ W nm none fr US W')(hf:fr=false):Xh C ρ W nm (some m) fr US W':=by subst hf;exact⟨e.le,λn b h=>(e.nn n b h).imp id λh=>Uw h.2.1 (by simp),λep l h=>(e.nv ep l h).imp id λh=>Uw h.2.1 (by simp),e.nz,e.nk,e.os,e.tape,e.output,e.size,λb hb _=>e.block b hb (λn hn=>by cases hn),e.hb⟩
def copyV(g:Nat->Value)(n:Nat):Nat->Nat->List Value->List Value
 | _,0,cur=>cur
 | _,_+1,[]=>[]
 | i,r+1,c::cur=>(if i<n then g i else c)::copyV g n (i+1) r cur
theorem pY{f:Nat->List SV}{g:Nat->Value}{n:Nat}(hg:∀j,j<n->ao ρ (f j) [g j]):∀(r i:Nat) (cs:List SV) (cur:List Value),Ee f i r cs->ao ρ cs cur->ao ρ (vp f n i r cs) (copyV g n i r cur)
 | 0,i,cs,cur,_,h=>h
 | r+1,i,[],cur,_,h=>by obtain rfl:=cq h;exact rfl
 | r+1,i,c::cs,cur,ha,h=>by obtain⟨x,xs,rfl,h1,h2⟩:=aN h;have ih:=pY hg r (i+1) cs xs ha.2 h2;show ao ρ (ZQ (Nat.blt i n) (f i) [c]++_) (_::_);by_cases hi:i<n;rw[UD hi,show Nat.blt i n=true from Nat.ble_eq_true_of_le hi];exact bg (fQ _ _ _ (hg i hi)) ih;have:Nat.blt i n=false:=(by cases e:Nat.blt i n;rfl;exact Uw (L' e) (by omega));rw[UC hi,this];exact bg (cL _ _ _ ha.1 (aL h1 rfl)) ih
theorem vo{g:Nat->Value}{n:Nat} : ∀(r i:Nat) (cur:List Value) (t:Nat),(copyV g n i r cur)[t]? = if t<r∧i+t<n∧t<cur.length then some (g (i+t)) else cur[t]?
 | 0,i,cur,t=>by simp[copyV]
 | r+1,i,[],t=>by simp[copyV]
 | r+1,i,c::cur,0=>by simp only[copyV,List.getElem?_cons_zero,List.length_cons,Nat.add_zero];by_cases h:i<n;rw[UD h,UD ⟨by omega,h,by omega⟩];rw[UC h,UC (by omega)]
 | r+1,i,c::cur,t+1=>by simp only[copyV,List.getElem?_cons_succ,List.length_cons];rw[vo r (i+1) cur t];by_cases h:t<r∧i+1+t<n∧t<cur.length;rw[UD h,UD (by omega),show i+1+t=i+(t+1) by omega];rw[UC h,UC (by omega)]
theorem zL{g:Nat->Value}{n r:Nat}{cur:List Value}(h:r<=cur.length):copyV g n 0 r cur=(List.range (min n r)).map g++cur.drop (min n r):=by apply List.ext_getElem?;intro t;rw[vo];simp only[B'];by_cases ht:t<min n r;rw[UD (by omega),M' (by simpa using ht)];simp[ht];rw[UC (by omega),O' (by simp;omega)];simp only[List.length_map,List.length_range,List.getElem?_drop];rw[show min n r+(t-min n r)=t by omega]
theorem ND(hH:VY C H ρ W){t t2 ty:TypeId}{x y:SV}{u v:Value}{r:DR}(hD:J9 C H t x y=some r)(ho:r.Ob)(hx:den ρ x u)(hy:den ρ y v) :
  ∃w W',(Builtin.copy_ #[t,t2] ty #[u,v]).run C.P W=.ok w W'∧fX C ρ W nm r w W':=by
 unfold J9 at hD;split at hD;cases hD;rename_i e ei VG;obtain⟨i,z,ht,hi,hs,hby,hz,Wo⟩:=cH VG;split at hD;cases hD;rename_i b1;have b1:=Nb b1;have YQ:(C.P.info? e).map (·.size)=some 1:=by rw[hi];show some i.size=some 1;rw[hs,b1]
 split at hD;obtain⟨b,hb,rfl⟩:=hx;obtain rfl:v=_:=hy;exact⟨_,W,run_copy_nil C.P W t t2 ty e _ _ _ ht (by rw[YQ];rfl),eh hH.hb (bm hD rfl)⟩;rename_i m sz off len cap m' Vi V4 XP cap';split at hD;rename_i cs bt Yi bt' b2 b3 hl hl';obtain⟨b,hb,rfl⟩:=hx;obtain⟨b',WE,rfl⟩:=hy;obtain⟨b'',us,k1,k2,k3,k4,k5⟩:=hH.blk m _ (kS hl);rw[hb] at k1;obtain rfl:=Oi k1;obtain⟨b3',vs,j1,j2,j3,j4,j5⟩:=hH.blk m' _ (kS hl');rw[WE] at j1;obtain rfl:=Oi j1;split at hD;rename_i l hll;have el:=dI hll;split at hD;rename_i c2 b4 b5 hc2;have b4:=Nb b4;have b5:=L' b5;have ec:=dI hc2;obtain rfl:=Oi hD;have hd:ao ρ l ((vs.drop V4).take (min XP len)):=(by rw[el];exact di _ (bX _ j2));have hlen:=aF hd;have hlen2:=aF k2;have hn:((vs.drop V4).take (min XP len)).length=Nat.min XP len:=(by rw[hlen,b4]);have hsrc:∀(j:Nat) (c:Value),((vs.drop V4).take (min XP len))[j]? = some c->W.cell? ((⟨b',V4,none⟩:Addr).add j)=some c:=λj c hc=>(by have hjl:j<min XP len:=(by have:=(J'.1 hc).1;omega);rw[UF hjl,List.getElem?_drop] at hc;rw[bR];show W.cell? ⟨b',V4+j,none⟩=some c;have j3':W.heap[b']? = some (.cells vs.toArray bt' (0,0)):=j3;have hjv:=(J'.1 hc).1;simp only[World.cell?,j3'];simpa[hjv] using hc);have h1:∀c∈(vs.drop V4).take (min XP len),c.oneCell'=true:=λc hc=>j4 c (List.mem_of_mem_drop (List.mem_of_mem_take hc));have U6:=run_copy_row C.P W t t2 ty e b off len cap ⟨b',V4,none⟩ XP cap' us.toArray bt _ ht YQ k3 hn hsrc (by simp;omega) h1;refine⟨_,_,U6,ρ,mK hH.hb (.inl hb) k5,λn' VC h'=>?_,?_⟩;obtain⟨rfl,rfl⟩:=P' (Oi h');refine⟨b,_,hb,?_,setRow_heap W b _ _ _ _ k3,λc VU=>?_,k5⟩;rw[ec,<-hlen];exact bg (bg (di _ k2) hd) (bX _ k2);rcases UJ.1 VU with VU|VU;rcases UJ.1 VU with VU|VU;exact k4 c (by simpa using List.mem_of_mem_take VU);exact h1 c VU;exact k4 c (by simpa using List.mem_of_mem_drop VU);show goInt _=.int .i64 (l.length:Nat);rw[<-hlen];rfl;cases hD;cases hD;cases hD
 ·rename_i m sz off len cap Vi n f;split at hD
  ·rename_i cs bt b2 b3 hl;have b3:=Nb b3;subst b3;split at hD
   ·rename_i c2 b5 hc2;have b5:=L' b5;have ec:=dI hc2;obtain rfl:=Oi hD;have ha:Ee f 0 len (cs.drop off):=ho;obtain⟨b,hb,rfl⟩:=hx;obtain⟨b'',us,k1,k2,k3,k4,k5⟩:=hH.blk m _ (kS hl);rw[hb] at k1;obtain rfl:=Oi k1;have hlen2:=aF k2;obtain⟨a,scap,rfl,hn,YS⟩:=hy;have Y2:den ρ (.v (.int .i64 (min n len:Nat))) (goInt (min n len:Nat)):=rfl;rcases Nat.eq_zero_or_pos (min n len) with h0|h0
    ·have hV:copyV (λ_=>undef) 0 0 len (us.drop off)=us.drop off:=(by rw[zL (by simp;omega)];simp);have hL:ao ρ (vp f 0 0 len (cs.drop off)) (us.drop off):=by
      have:=pY (ρ:=ρ) (f:=f) (g:=λ_=>undef) (n:=0) (λj h=>Uw h (F' j)) len 0 _ _ ha (bX off k2)
      rwa [hV] at this
     have hn0:len=0∨n=0:=(by omega);have hcL:vp f n 0 len (cs.drop off)=vp f 0 0 len (cs.drop off):=(by rcases hn0 with h|h;subst h;rfl;subst h;rfl);refine⟨_,W,run_copy_none W t t2 ty e _ _ _ _ _ _ ht YQ h0,ρ,(Xh.uS hH.hb (Gr.refl W)).Ps rfl,λn' VC h'=>?_,?_⟩
     ·obtain⟨rfl,rfl⟩:=P' (Oi h');refine⟨b,us,hb,?_,k3,k4,k5⟩;rw[ec,hcL];have:=bg (di off k2) hL
      rwa [List.take_append_drop] at this
     show goInt 0=.int .i64 (min n len:Nat);rw[h0];rfl
    obtain⟨sb,so,-,ea,-⟩:=YS 0 (by omega);subst ea;obtain⟨g,hg⟩:∃g:Nat->Value,g=λj=>(W.cell? ⟨sb,so+j,none⟩).getD undef:=⟨_,rfl⟩
    have hgj:∀j,j<n->ao ρ (f j) [g j]∧W.cell? ⟨sb,so+j,none⟩=some (g j)∧(g j).oneCell'=true:=λj hj=>by
     obtain⟨b1',o1,us1,e1,e2,e3,e4⟩:=YS j hj;injection e1 with e1;injection e1 with e1 e1';subst e1 e1'
     match us1,e3 with
     | [x],_=>
      have hz:=e4 0 x rfl;have hc:=hH.hb.zok _ _ _ hz;have hc1:W.cell? ⟨sb,so+j,none⟩=some x:=(by have:=hc.1;simpa using this);have:g j=x:=(by rw[hg];simp[hc1]);rw[this];exact⟨aJ (Names.uz ρ) _ _ e2,hc1,hc.2⟩
    have hlenm:((List.range (min n len)).map g).length=Nat.min n len:=(by rw[List.length_map,List.length_range]);have hsrc:∀(j:Nat) (c:Value),((List.range (min n len)).map g)[j]? = some c->W.cell? ((⟨sb,so,none⟩:Addr).add j)=some c:=λj c hc=>(by have hj:j<min n len:=(by have:=(J'.1 hc).1;simpa using this);rw[bR];simp[hj] at hc;rw[<-hc];exact(hgj j (by omega)).2.1);have h1:∀c∈(List.range (min n len)).map g,c.oneCell'=true:=λc hc=>(by obtain⟨j,hj,rfl⟩:=List.mem_map.1 hc;rw[List.mem_range] at hj;exact(hgj j (by omega)).2.2);have U6:=run_copy_row C.P W t t2 ty e b off len cap ⟨sb,so,none⟩ n scap us.toArray bt _ ht YQ k3 hlenm hsrc (by simp;omega) h1;have erow:us.take off++(List.range (min n len)).map g++us.drop (off+((List.range (min n len)).map g).length)=us.take off++copyV g n 0 len (us.drop off):=(by rw[zL (by simp;omega),List.append_assoc,List.drop_drop,List.length_map,List.length_range]);refine⟨_,_,U6,ρ,mK hH.hb (.inl hb) k5,λn' VC h'=>?_,?_⟩;obtain⟨rfl,rfl⟩:=P' (Oi h');refine⟨b,_,hb,?_,setRow_heap W b _ _ _ _ k3,λc VU=>?_,k5⟩;rw[ec];show ao ρ _ (us.take off++(List.range (min n len)).map g++us.drop (off+((List.range (min n len)).map g).length));rw[erow];exact bg (di _ k2) (pY (λj hj=>(hgj j hj).1) len 0 _ _ ha (bX off k2));rcases UJ.1 VU with VU|VU;rcases UJ.1 VU with VU|VU;exact k4 c (by simpa using List.mem_of_mem_take VU);exact h1 c VU;exact k4 c (by simpa using List.mem_of_mem_drop VU);show goInt _=.int .i64 (min n len:Nat);rw[hlenm];rfl
   cases hD
  cases hD
 cases hD
theorem MN(hH:VY C H ρ W)(hf:ρ.v nm=none){t:TypeId}{x y:SV}{u v:Value}{r:DR}(hD:yF C nm t x y=some r)(ho:r.Ob)(hx:den ρ x u)(hy:den ρ y v) :
  ∃w W',(Instr.makeSlice t u v).run C.P W=.ok w W'∧fX C ρ W nm r w W':=by
 unfold yF at hD;split at hD
 ·rename_i e ei k n k' m VG hn hm;obtain⟨i,z,ht,hi,hs,hby,hz,Wo⟩:=cH VG;split at hD
  ·rename_i b0 b1;have Zn:=Nb b1;have hzc:z.cells.size=ei.sz:=(by have:=aF (cM (ρ:=ρ) Wo);rw[<-Zn,<-this];simp);obtain rfl:=Oi hD;obtain⟨h0,h1,Vv⟩:=ho;have ZY:=fits (i:=i) Vv hby;obtain rfl:=SV.int?_den hn hx;obtain rfl:=SV.int?_den hm hy;obtain⟨M,rfl⟩:∃M:Nat,m=M:=⟨m.toNat,by omega⟩
   obtain⟨N,rfl⟩:∃N:Nat,n=N:=⟨n.toNat,by omega⟩
   have hNM:N<=M:=(by omega);simp only[Int.toNat_natCast] at ZY ⊢;have hcells:madeCells z.cells (M*i.size)=Builtin.zeroCells z.cells M:=(by simp[madeCells,Builtin.zeroCells,hs,hzc]);have ZD:=ZY.1;simp[maxLen] at ZD;have h3:(i.bytes:Int)*(M:Int)<=281474976710656:=(by have h4:((M*i.bytes:Nat):Int)<=140737488355328:=Int.ofNat_le.2 ZY.2;rw[Int.natCast_mul,Int.mul_comm] at h4;exact Int.le_trans h4 (by decide));have U6:=Go.run_make (P:=C.P) W t e i z ht hi hz k k' (N:Int) (M:Int) h0 h1 h3 (by omega);simp only[Int.toNat_natCast] at U6;rw[hcells] at U6;have g:Gr W (W.alloc (.cells (Builtin.zeroCells z.cells M) e)):=(Gr.refl W).alloc _;refine⟨_,_,U6,ρ.gU nm ⟨nm,some ⟨W.heap.size,0,none⟩,M,N⟩,fT (l:=⟨nm,some ⟨W.heap.size,0,none⟩,M,N⟩) hH.hb hf g (λ_ b o h=>?_),λn' sb h=>?_,?_⟩;injection h with h;injection h with h;subst h;exact⟨I' _,by simp⟩;obtain⟨rfl,rfl⟩:=P' (Oi h);refine⟨_,Names.aX,rfl,rfl,hNM,λ_=>⟨W.heap.size,(Builtin.zeroCells z.cells M).toList,rfl,?_,?_,?_,?_,?_⟩⟩;have:Xi (W.alloc (.cells (Builtin.zeroCells z.cells M) e)) W.heap.size _ e:=Xi.new (w:=W) rfl;exact this;rw[jR,hzc];exact jQ Wo;intro i' c Wc;have:=jI (hH.hb.zok _ i' c Wc).1;omega;intro i' VZ;refine⟨z.cells.toList,cM Wo,by simpa using hzc,λq c hq=>?_⟩;have hql:q<z.cells.size:=(by have:=(J'.1 hq).1;simpa using this);rw[<-hzc,EG (by omega) hql];simpa using hq;exact⟨_,Names.aX,rfl,by simp,hNM,some ⟨W.heap.size,0,none⟩,by simp,λ_=>⟨W.heap.size,rfl,by simp⟩⟩
  cases hD
 cases hD
theorem Jd{t:TypeId}{x y:SV}{r:DR}(hD:yF C nm t x y=some r):r.fr=true:=by unfold yF at hD;split at hD;split at hD;obtain rfl:=Oi hD;rfl;cases hD;cases hD
theorem Dq{t:Nat}{kk:IntKind}{ei:TI}(h:Jc C t=some (kk,ei)):∃k e i z d,C.P.underlying t=some (.map k e)∧C.P.underlying k=some (.int kk)∧C.P.info? e=some i∧i.zero=some z∧eZ z.cells.toList ei.z=true∧C.P.underlying e=some d∧bn d ei.k=true∧Rq z=iS ei.k:=by
 unfold Jc at h;split at h;cases h;rename_i ti VL;obtain⟨i0,d0,z0,-,XM,-,-,-,X',-⟩:=(C.ty VL).ex;split at h
 ·rename_i k e Wz;rw[Wz] at X';obtain rfl:d0=.map k e:=by
   cases d0 with
   | map k' e'=>
    simp only[bn,Ur,beq_iff_eq] at X';rw[X'.1,X'.2]
   | _=>first|cases X'|(simp[bn] at X')
  split at h
  ·rename_i ki ei' X9 VG;obtain⟨i1,d1,z1,-,Ws,-,-,-,Xy,-⟩:=(C.ty X9).ex;obtain⟨i2,d2,z2,Zq,WS,-,ZC,Y1,XE,-⟩:=(C.ty VG).ex;split at h
   ·rename_i kk' YC;obtain⟨rfl,rfl⟩:=P' (Oi h);rw[YC] at Xy;obtain rfl:d1=.int kk':=by
     cases d1 with
     | int k'=>obtain rfl:k'=kk':=Od Xy;rfl
     | _=>first|cases Xy|(simp[bn] at Xy)
    exact⟨k,e,i2,z2,d2,XM,Ws,Zq,ZC,Y1,WS,XE,(C.ty VG).ag _ _ Zq ZC⟩
   cases h
  cases h
 cases h
theorem Dp{n:Nat}{k:IntKind}{ag:Bool}{has:Int->Bool}{g:Int->List SV}(h:maps H n=some (k,ag,has,g)):look H n=some (.mp k ag has g):=by unfold maps at h;split at h;rename_i hl;obtain⟨rfl,h1⟩:=P' (Oi h);obtain⟨rfl,h2⟩:=P' h1;obtain⟨rfl,rfl⟩:=P' h2;exact hl;cases h
theorem Fo(hH:VY C H ρ W)(hf:ρ.n nm=none){t:TypeId}{r:DR}(hD:pE C nm t=some r):fX C ρ W nm r (.map (some W.heap.size)) (W.alloc (.map #[] 0)):=by unfold pE at hD;split at hD;obtain rfl:=Oi hD;have g:Gr W (W.alloc (.map #[] 0)):=(Gr.refl W).alloc _;refine⟨ρ.tU nm W.heap.size,zH hH.hb hf g (I' _) (by simp),λn sb h=>?_,_,Names.gH,rfl⟩;obtain⟨rfl,rfl⟩:=P' (Oi h);exact⟨_,#[],0,Names.gH,(Go.MapKept.heap_alloc W _).1,Go.MapKept.stamped_empty 0,⟨λe he=>Uw he (by simp),λn hn=>Bool.noConfusion hn⟩⟩;cases hD
theorem OD{t:TypeId}{x y:SV}{r:DR}(hD:K0 C H nm t x y=some r):r.fr=true:=by
 unfold K0 at hD;repeat' split at hD
 all_goals first|(obtain rfl:=Oi hD;rfl)|cases hD
theorem Fp{t:TypeId}{r:DR}(hD:pE C nm t=some r):r.fr=true:=by unfold pE at hD;split at hD;obtain rfl:=Oi hD;rfl;cases hD
theorem Ea{n b:Nat}{o o':Obj}(hb:HB C ρ W)(hn:ρ.n n=some b)(ho:W.heap[b]? = some o)(hz:∀i c,¬ρ.z b i c):Xh C ρ W nm (some n) false ρ {W with heap:=W.heap.setIfInBounds b o'}:=by
 have hs:({W with heap:=W.heap.setIfInBounds b o'} : World).heap.size=W.heap.size:=by simp
 have hoth:∀b',b'≠b->({W with heap:=W.heap.setIfInBounds b o'} : World).heap[b']? = W.heap[b']?:=(Go.MapKept.heap_set (w:=W) (o':=o') ho).2;have hl:=hb.low n b (.inl hn);refine⟨.refl _,λ_ _ h=>.inl h,λ_ _ h=>.inl h,λ_ _ _ h=>.inl h,λ_ _=>rfl,rfl,rfl,rfl,Nat.le_of_eq hs.symm,λb' _ hn'=>hoth b' (by rintro rfl;exact hn' n rfl (.inl hn)),?_⟩;refine⟨hb.own,λn b h=>by rw[hs];exact hb.low n b h,λb' i c h=>?_,hb.grd.keep (Nat.le_of_eq hs.symm) λb' WE=>hoth b' (by omega)⟩;have U2:b'≠b:=by rintro rfl;exact hz i c h
 exact⟨(cell_of_heap (hoth b' U2)).trans (hb.zok b' i c h).1,(hb.zok b' i c h).2⟩
theorem yE{ag:Bool}{v:SV}{l:List SV}{y:Value}(h:sM ag v=some l)(hd:den ρ v y):∃u,ao ρ l u∧Eo ag u y:=by unfold sM at h;split at h;obtain rfl:=Oi h;obtain⟨u,h1,h2⟩:=hd;exact⟨u,h1,h2⟩;cases h;cases h;cases h;cases h;obtain rfl:=Oi h;exact⟨[y],aL hd rfl,rfl⟩;cases h
theorem Fh{α:Type}{l:List α}(h:l.Nodup){i j:Nat}(hi:i<l.length)(hj:j<l.length)(e:l[i]=l[j]):i=j:=by rcases Nat.lt_trichotomy i j with k|k|k;exact Uw e (List.pairwise_iff_getElem.1 h i j hi hj k);exact k;exact Uw e.symm (List.pairwise_iff_getElem.1 h j i hj hi k)
theorem Fl(hH:VY C H ρ W){t:TypeId}{x i v:SV}{ux ui uv:Value}{r:DR}(hD:wE C H t x i v=some r)(ho:r.Ob)(hx:den ρ x ux)(hi:den ρ i ui)(hv:den ρ v uv) :
  ∃W',(Instr.mapUpdate t ux ui uv).run C.P W=.ok () W'∧∀nm,fX C ρ W nm r undef W':=by
 unfold wE at hD;split at hD
 ·rename_i kk ei n hmt;obtain⟨kt,et,inf,z,d,ht,hkt,-⟩:=Dq hmt;split at hD
  ·rename_i k ag has g k' q hmp hq;split at hD
   ·rename_i l Xy XE hl;split at hD
    ·rename_i hpu;obtain rfl:=eL Xy;obtain rfl:=eL XE;obtain rfl:=Oi hD;have YU:∀j,fE l (g j):=ho;obtain⟨b,e1,rfl⟩:=hx;obtain rfl:=SV.int?_den hq hi;obtain⟨b',es,cl,h1,h2,h3,h4⟩:=hH.blk n _ (Dp hmp);rw[e1] at h1;obtain rfl:=Oi h1;obtain⟨u,hu1,hu2⟩:=yE hl hv;have hu3:=cK _ _ hpu hu1;have V6:∀i c,¬ρ.z b i c:=λi c hz=>(by have:=(hH.hb.zok b i c hz).1;simp[World.cell?,h2] at this);have hks:∀x∈es.toList,Go.MapKept.IsKey (.int k') x.key:=λx hx=>(by obtain⟨m,hm,-⟩:=h4.keys x hx;rw[hm];rfl);have hk:Go.MapKept.IsKey (.int k') (.int k' q):=rfl;rcases Go.MapKept.findNow_spec hk es.toList 0 hks with ⟨f1,f2⟩|⟨j,e,f1,f2,f3⟩
     have U6:(Instr.mapUpdate t (.map (some b)) (.int k' q) uv).run C.P W=.ok () {W with heap:=W.heap.setIfInBounds b (.map (es.push {key:=.int k' q,val:=uv,born:=cl}) (cl+1))}:=(by simp[Instr.mapUpdate,run_underlying ht,Go.MapKept.run_getObj_map h2,Go.MapKept.run_checkKey hkt hk,Go.MapKept.run_findKey hkt f1,Go.MapKept.run_setObj_map _ h2,Result.andThen]);refine⟨_,U6,λnm=>⟨ρ,Ea hH.hb e1 h2 V6,λn' sb hn'=>?_,rfl⟩⟩;obtain⟨rfl,rfl⟩:=P' (Oi hn');refine⟨b,_,_,e1,(Go.MapKept.heap_set h2).1,Go.MapKept.stamped_push h3 f2,λx hx=>?_,λm hm=>?_⟩;simp only[Array.toList_push,UJ,List.mem_singleton] at hx;rcases hx with hx|rfl;obtain⟨m,q1,q2,us,q3,q4⟩:=h4.keys x hx;have U2:m≠q:=λe=>f2 x hx (by rw[q1,e]);refine⟨m,q1,by rw[q2,Bool.or_true],us,?_,q4⟩;rw[UA U2];exact cL _ _ _ (YU m) q3;refine⟨q,rfl,by rw[UB rfl,Bool.true_or],u,?_,hu2⟩;rw[UB rfl];exact fQ _ _ _ hu3;by_cases e:m=q;subst e;exact⟨_,by simp only[Array.toList_push,UJ,List.mem_singleton];exact .inr rfl,rfl⟩;rw[UA e,Bool.false_or] at hm;obtain⟨x,hx,q1⟩:=h4.yes m hm;exact⟨x,by simp only[Array.toList_push,UJ];exact .inl hx,q1⟩;have hj:es[j]? = some e:=(by simpa using f2);have U6:(Instr.mapUpdate t (.map (some b)) (.int k' q) uv).run C.P W=.ok () {W with heap:=W.heap.setIfInBounds b (.map (es.modify j λe=>{e with key:=.int k' q,val:=uv}) cl)}:=(by simp[Instr.mapUpdate,run_underlying ht,Go.MapKept.run_getObj_map h2,Go.MapKept.run_checkKey hkt hk,Go.MapKept.run_findKey hkt f1,hj,f3,Go.MapKept.run_keyThatStays hk,Go.MapKept.run_setObj_map _ h2,Result.andThen]);have hkey:∀e',es[j]? = some e'->({e' with key:=.int k' q,val:=uv} : MapEntry).key=e'.key:=λe' ZZ=>(by rw[hj] at ZZ;cases ZZ;exact f3.symm);refine⟨_,U6,λnm=>⟨ρ,Ea hH.hb e1 h2 V6,λn' sb hn'=>?_,rfl⟩⟩;obtain⟨rfl,rfl⟩:=P' (Oi hn');refine⟨b,_,_,e1,(Go.MapKept.heap_set h2).1,Go.MapKept.stamped_modify h3 _ _ (λ_ _=>rfl) (λe' _ ZZ=>hkey e' ZZ),λx hx=>?_,λm hm=>?_⟩;obtain⟨i',VZ,hxi⟩:=List.mem_iff_getElem.1 hx;have hxi2:(es.modify j λe=>{e with key:=.int k' q,val:=uv})[i']? = some x:=(by rw[<-Array.getElem?_toList,UL VZ,hxi]);rw[Array.getElem?_modify] at hxi2;by_cases XS:j=i';subst XS;rw[UD rfl,hj] at hxi2;obtain rfl:=Oi hxi2;refine⟨q,rfl,by rw[UB rfl,Bool.true_or],u,?_,hu2⟩;rw[UB rfl];exact fQ _ _ _ hu3;rw[UC XS] at hxi2;have hxm:x∈es.toList:=(by have:es.toList[i']? = some x:=(by simpa using hxi2);exact UM this);obtain⟨m,q1,q2,us,q3,q4⟩:=h4.keys x hxm;have U2:m≠q:=λem=>XS (by have hnd:=h3.2.2;have a1:(es.toList.map (·.key))[j]? = some (.int k' q):=(by simp[hj,f3]);have a2:(es.toList.map (·.key))[i']? = some (.int k' q):=(by have:es.toList[i']? = some x:=(by simpa using hxi2);rw[List.getElem?_map,this,Option.map_some,q1,em]);obtain⟨b1,c1⟩:=J'.1 a1;obtain⟨b2,c2⟩:=J'.1 a2;exact Fh hnd b1 b2 (c1.trans c2.symm));refine⟨m,q1,by rw[q2,Bool.or_true],us,?_,q4⟩;rw[UA U2];exact cL _ _ _ (YU m) q3;have hkeys:=Go.MapKept.modify_keys (es:=es) j (λe=>{e with key:=.int k' q,val:=uv}) hkey;have Xm:(.int k' m:Value)∈es.toList.map (·.key):=(by by_cases em:m=q;subst em;exact List.mem_map.2 ⟨e,UM f2,f3⟩;rw[UA em,Bool.false_or] at hm;obtain⟨x,hx,q1⟩:=h4.yes m hm;exact List.mem_map.2 ⟨x,hx,q1⟩);rw[<-hkeys] at Xm;obtain⟨x,hx,q1⟩:=List.mem_map.1 Xm;exact⟨x,hx,q1⟩
    cases hD
   cases hD
  cases hD
 cases hD
theorem uW{ag:Bool}{l:List SV}{v:SV}{u:List Value}{y:Value}(h:mapVal ag l=some v)(hd:ao ρ l u)(hc:Eo ag u y):den ρ v y:=by unfold mapVal at h;split at h;obtain rfl:=Oi h;exact⟨u,hd,hc⟩;rename_i x;obtain rfl:=Oi h;obtain rfl:u=[y]:=hc;obtain⟨a,b,e1,e2,-⟩:=aN hd;obtain rfl:y=a:=(by injection e1);exact e2;cases h
theorem uJ{a b:Bool}(h:Bd a b=true):a=b:=by cases a<;>cases b<;>first|rfl|cases h
theorem Fq(hH:VY C H ρ W){t:TypeId}{x i:SV}{ok:Bool}{ux ui:Value}{r:DR}(hD:wF C H t x i ok=some r)(ho:r.Ob)(hx:den ρ x ux)(hi:den ρ i ui) :
  ∃y,(Instr.lookup t ux ui ok).run C.P W=.ok y W∧Yields r ρ y:=by
 unfold wF at hD;split at hD
 ·rename_i kk ei n hmt;obtain⟨kt,et,inf,z,d,ht,hkt,VG,hz,Wo,hde,hke,hav⟩:=Dq hmt;split at hD
  ·rename_i k ag has g k' q hmp hq;split at hD
   ·rename_i v Xy XE V0 hv;obtain rfl:=eL Xy;obtain rfl:=eL XE;obtain rfl:=uJ V0;obtain⟨b,e1,rfl⟩:=hx;obtain rfl:=SV.int?_den hq hi;obtain⟨b',es,cl,h1,h2,h3,h4⟩:=hH.blk n _ (Dp hmp);rw[e1] at h1;obtain rfl:=Oi h1;have YU:fE (g q) ei.z:=by cases ok<;>(obtain rfl:=Oi hD;exact ho)
    have hks:∀x∈es.toList,Go.MapKept.IsKey (.int k') x.key:=λx hx=>(by obtain⟨m,hm,-⟩:=h4.keys x hx;rw[hm];rfl);have hk:Go.MapKept.IsKey (.int k') (.int k' q):=rfl;have key:∃y,(Instr.lookup t (.map (some b)) (.int k' q) ok).run C.P W=.ok (if ok then .tuple #[y,.bool (has q)] else y) W∧den ρ v y:=by
     rcases Go.MapKept.findNow_spec hk es.toList 0 hks with ⟨f1,f2⟩|⟨j,e,f1,f2,f3⟩
     ·have hq0:has q=false:=by
       cases hh:has q with
       | false=>rfl
       | true=>
        obtain⟨x,hx,q1⟩:=h4.yes q hh;exact Uw q1 (f2 x hx)
      refine⟨z,?_,?_⟩;simp[Instr.lookup,run_underlying ht,Go.MapKept.run_getObj_map h2,Go.MapKept.run_checkKey hkt hk,Go.MapKept.run_findKey hkt f1,zeroValue,typeInfo,VG,hz,hq0,Result.andThen];rw[hq0] at hv;have hzc:∃u,ao ρ ei.z u∧Eo (iS ei.k) u z:=(by refine⟨z.cells.toList,cM Wo,?_⟩;rw[<-hav];cases z<;>rfl);obtain⟨u,k1,k2⟩:=hzc;exact uW hv (cL _ _ _ YU k1) k2
     have hem:e∈es.toList:=UM f2;obtain⟨m,q1,q2,u,q3,q4⟩:=h4.keys e hem;have hmq:m=q:=(by rw[f3] at q1;injection q1 with _ q1;exact q1.symm);subst hmq;refine⟨e.val,?_,?_⟩;simp[Instr.lookup,run_underlying ht,Go.MapKept.run_getObj_map h2,Go.MapKept.run_checkKey hkt hk,Go.MapKept.run_findKey hkt f1,q2,Result.andThen];rw[q2] at hv;exact uW hv (fQ _ _ _ (aJ (Names.uz ρ) _ _ q3)) q4
    obtain⟨y,hy1,hy2⟩:=key;cases ok with
    | true=>
     obtain rfl:=Oi hD;exact⟨_,hy1,rfl,rfl,[y,.bool (has q)],aL hy2 (aL rfl rfl),rfl⟩
    | false=>
     obtain rfl:=Oi hD;exact⟨_,hy1,rfl,rfl,hy2⟩
   cases hD
  cases hD
 cases hD
theorem oI{f:FuncId}{c:Call}{dst:Option Tmp}{ty:TypeId}{pos:String}{after:Array Edge}{guard:Option (Nat×Bool)}{x:Operand}{first captured al:Array Value}{P:Program}
  (hc:c.callee=.value x) (hx:a.eval x=.func (.func f) first captured) (en:∀(args:Array Value) (w:World),(callFunc f args).run P w=.ok (.enter f args) w) (e:first++c.args.map a.eval++captured=al) :
  (execOp a.eval ⟨dst,.call c,ty,pos,after,guard⟩).run P W=.ok (.enter f al) W:=by
 subst e;simp only[execOp,resolve,hc,hx,Deferred.ofValue,UQ,UP,UO,invoke,en]
theorem mP(h:mq op a ρ){c:Call}{x:Operand}{sf:SV}{g:Nat}{first captured args:List SV}(hsf:op [] x=some sf)(hg:callee sf=some (g,first,captured))(Vh:YZ op c.args.toList=some args) :
  ∃fv cv,a.eval x=.func (.func g) fv cv∧ao ρ (first++args++captured) (fv++c.args.map a.eval++cv).toList:=by
 have hf:=h.get hsf;have ha:=ik h Vh;unfold callee at hg;split at hg;obtain⟨e1,e2⟩:=P' (Oi hg);obtain⟨e2,e3⟩:=P' e2;subst e1 e2 e3;exact⟨#[],#[],hf,by simpa using ha⟩;obtain⟨e1,e2⟩:=P' (Oi hg);obtain⟨e2,e3⟩:=P' e2;subst e1 e2 e3;obtain⟨u,w,k1,k2,k3⟩:=hf;refine⟨_,_,k3,?_⟩;have:=bg (bg k1 ha) k2;simpa using this;cases hg
theorem HZ{l:List Nat}{t:Nat}(h:H2 l=some t):l=[t,t]:=by unfold H2 at h;split at h;split at h;rename_i b;obtain rfl:=Oi h;have:=Nb b;subst this;rfl;cases h;cases h
theorem OE{t:TypeId}{x y:SV}{r:DR}(hD:K2 C H nm t x y=some r):r.fr=true:=by unfold K2 at hD;split at hD;cases hD;split at hD;split at hD;obtain rfl:=Oi hD;rfl;obtain rfl:=Oi hD;rfl;split at hD;split at hD;obtain rfl:=Oi hD;rfl;cases hD;cases hD;cases hD;cases hD
theorem KT{r:DR}(hH:VY C H ρ W)(hf:r.fr=true->ρ.v nm=none)(h:mq op a ρ){c:Call}{dst:Option Tmp}{ty:TypeId}{pos:String}{after:Array Edge}{guard:Option (Nat×Bool)}
  (hD:Ep Γ op H nm c=some r) (ho:r.Ob) (hK:∀val W',fX C ρ W nm r val W'->K (a.put dst val) W'):dB C.P C.co ⟨dst,.call c,ty,pos,after,guard⟩ a W K:=by
 unfold Ep at hD;split at hD
 ·rename_i x WT;split at hD
  ·rename_i sf hsf;split at hD
   ·rename_i g first captured args hg Vh
    split at hD;rename_i con hcon;split at hD;rename_i al YU;obtain rfl:=dI YU;obtain rfl:=wV hcon;obtain⟨fv,cv,XL,Vb⟩:=mP h hsf hg Vh;have Ze:bx C.P C.co con.f (fv++c.args.map a.eval++cv).toList.toArray W λe W'=>∃val,e=.returned val∧fX C ρ W nm r val W':=(by split at hD;rename_i g hg;exact con.effOk g hg ρ W H nm _ _ r hH hf Vb hD ho;exact LQ (nm:=nm) hH hf hD ho Vb);unfold dB;rw[oI WT XL con.en rfl];show bx _ _ _ _ _ _;have e:(fv++c.args.map a.eval++cv).toList.toArray=fv++c.args.map a.eval++cv:=(by simp);rw[e] at Ze;refine Ze.mono ?_;rintro e W' ⟨val,rfl,hp⟩;exact hK val W' hp;cases hD;cases hD
   cases hD
  cases hD
 rename_i WT;split at hD;rename_i l Vh;obtain⟨w,hw,hr⟩:=iM hD;obtain⟨y,k1,k2⟩:=MT (ty:=ty) (W:=W) hw (ik h Vh);refine bF (v:=y) ?_ (hK _ _ (eh hH.hb (bm hr k1)));have e:(c.args.map a.eval).toList.toArray=c.args.map a.eval:=rfl;rw[e] at k2;simp only[execOp,resolve,WT,UQ,UP,UO,invoke,builtin,k2];cases hD;rename_i WT;split at hD;rename_i l Vh;obtain⟨w,hw,hr⟩:=iM hD;obtain⟨y,k1,k2⟩:=Ja (ty:=ty) (W:=W) (C:=C) (ats:=c.argTypes) hw (ik h Vh);refine bF (v:=y) ?_ (hK _ _ (eh hH.hb (bm hr k1)));have e:(c.args.map a.eval).toList.toArray=c.args.map a.eval:=rfl;rw[e,UD rfl] at k2;simp only[execOp,resolve,WT,UQ,UP,UO,invoke,builtin,k2];cases hD;rename_i WT;split at hD;rename_i l Vh;obtain⟨w,hw,hr⟩:=iM hD;obtain⟨y,k1,k2⟩:=Ja (ty:=ty) (W:=W) (C:=C) (ats:=c.argTypes) hw (ik h Vh);refine bF (v:=y) ?_ (hK _ _ (eh hH.hb (bm hr k1)));have e:(c.args.map a.eval).toList.toArray=c.args.map a.eval:=rfl;rw[e,UC (by simp)] at k2;simp only[execOp,resolve,WT,UQ,UP,UO,invoke,builtin,k2];cases hD;rename_i WT;split at hD;rename_i x y t Vh ht;have hd:=ik h Vh;obtain⟨u,us,e1,e2,e3⟩:=aN hd;obtain⟨v,Zl,rfl,e5,e6⟩:=aN e3;obtain rfl:=cq e6;obtain⟨w,W',k1,k2⟩:∃w W',(Builtin.append_ #[t,t] ty #[u,v]).run C.P W=.ok w W'∧fX C ρ W nm r w W':=(by split at hD;rename_i r' hr;obtain rfl:=Oi hD;exact Rn (ty:=ty) hH (hf (OE hr)) hr ho e2 e5;exact OC (ty:=ty) hH (hf (OD hD)) hD ho e2 e5);have ht2:=HZ ht;have e7:c.args.map a.eval=#[u,v]:=(by apply Array.ext';rw[e1]);have e8:c.argTypes=#[t,t]:=(by apply Array.ext';rw[ht2]);refine fN (v:=w) ?_ (hK _ _ k2);simp only[execOp,resolve,WT,e7,e8,UQ,UP,UO,invoke,builtin,k1];cases hD;rename_i WT;split at hD;rename_i x y t t2 Vh ht;have hd:=ik h Vh;obtain⟨u,us,e1,e2,e3⟩:=aN hd;obtain⟨v,Zl,rfl,e5,e6⟩:=aN e3;obtain rfl:=cq e6;obtain⟨w,W',k1,k2⟩:=ND (nm:=nm) (ty:=ty) (t2:=t2) hH hD ho e2 e5;have e7:c.args.map a.eval=#[u,v]:=(by apply Array.ext';rw[e1]);have e8:c.argTypes=#[t,t2]:=(by apply Array.ext';rw[ht]);refine fN (v:=w) ?_ (hK _ _ k2);simp only[execOp,resolve,WT,e7,e8,UQ,UP,UO,invoke,builtin,k1];cases hD;cases hD
theorem ur{s:TypeId}{x:Operand}{k fo:Nat}{fi:TI}{u v:SV}{dst:Option Tmp}{ty:TypeId}{pos:String}{after:Array Edge}{guard:Option (Nat×Bool)}(ZF:lY C s k=some (fo,fi))(h:kY u fo fi.sz=some v)(hx:den ρ u (a.eval x)) :
  ∃y,den ρ v y∧(execOp a.eval ⟨dst,.fieldAddr s x k,ty,pos,after,guard⟩).run C.P W=.ok (.value y) W:=by
 obtain⟨fs,f,i,d,e1,e2,e3,e4,e5,e6,e7⟩:=iX ZF;unfold kY at h;split at h;cases h;rename_i m hm;have key:∀{b off:Nat},a.eval x=.pointer (some ⟨b,off,none⟩)->(execOp a.eval ⟨dst,.fieldAddr s x k,ty,pos,after,guard⟩).run C.P W=.ok (.value (.pointer (some ⟨b,off+fo,none⟩))) W:=by intro b off e;have:=zw (dst:=dst) (ty:=ty) (pos:=pos) (after:=after) (guard:=guard) (w:=W) e e1 e2 e4 (by omega);rw[bR,e3] at this;exact this
 split at h;obtain rfl:=Oi h;obtain⟨b,hb,e⟩:=hx;exact⟨_,⟨b,hb,rfl⟩,key e⟩;obtain rfl:=Oi h;exact⟨_,rfl,key hx⟩;obtain rfl:=Oi h;obtain⟨b,o,us,e,k2,k3⟩:=hx;exact⟨_,⟨b,o,us,by rw[Nat.add_assoc],k2,k3⟩,key e⟩;obtain rfl:=Oi h;obtain⟨l,b,p1,po,p2,p3,p4,e⟩:=hx;exact⟨_,⟨l,b,p1,po,p2,p3,p4,by rw[Nat.add_assoc]⟩,key e⟩;obtain rfl:=Oi h;obtain⟨l,b,p1,p2,p3,p4,e⟩:=hx;exact⟨_,⟨l,b,p1,p2,p3,p4,by rw[Nat.add_assoc]⟩,key e⟩;cases h
theorem Gm{r:DR}(hH:VY C H ρ W)(hf:r.fr=true->ρ.n nm=none)(h:mq op a ρ){t len:Nat}{parts:Array (Nat×Operand)}{ps:List (Nat×SV)}{dst:Option Tmp}{ty:TypeId}{pos:String}{after:Array Edge}{guard:Option (Nat×Bool)}
  (hp:opP op parts.toList=some ps) (hD:BY C nm t len ps=some r) (hK:∀val W',fX C ρ W nm r val W'->K (a.put dst val) W'):dB C.P C.co ⟨dst,.buildSlice t len parts,ty,pos,after,guard⟩ a W K:=by
 unfold BY at hD;split at hD;cases hD;rename_i ti VL;split at hD;cases hD;rename_i e he;split at hD;cases hD;rename_i ei VG;obtain⟨i1,d1,z1,-,Ws,-,-,-,Xy,-⟩:=(C.ty VL).ex;obtain⟨i2,d2,z2,Zq,WS,Xt,ZC,Y1,-⟩:=(C.ty VG).ex;obtain rfl:d1=.slice e:=by
  cases Wz:ti.k with
  | sl e2=>
   rw[Wz] at he Xy;obtain rfl:=Oi he;cases d1 with
   | slice e3=>simp only[bn,beq_iff_eq] at Xy;rw[Xy]
   | _=>simp[bn] at Xy
  | _=>rw[Wz] at he;cases he
 split at hD
 ·have hpn:parts.toList=[]:=by
   cases hl:parts.toList with
   | nil=>rfl
   | cons p q=>
    rw[hl] at hp;obtain⟨i,x⟩:=p;simp only[opP] at hp;split at hp;cases Oi hp;cases hp
  exact fN (tj Ws Zq hpn) (hK _ _ (vZ hH.hb ((Gr.refl W).alloc _) (bm hD ⟨_,rfl⟩)))
 split at hD;rename_i b1 b2 b3;split at hD;rename_i l hl;split at hD;rename_i VF;obtain rfl:=Oi hD;have hzd:=cM (ρ:=ρ) Y1;have b3':=Nb b3;have Zn:z2.cells.size=i2.size:=(by have:=aF hzd;rw[Xt,<-b3',<-this];simp);obtain⟨ls,k1,k2⟩:=oF h hp hl (yd (n:=len) hzd);refine fN (m9 (ls:=ls.toArray) Ws Zq ZC ?_ ?_ Zn (by rw[Xt];exact k2)) (hK _ _ (sn hH.hb (hf rfl) k1 (oi VF k1) ⟨W.heap.size,Names.gH,rfl⟩));rw[Xt];intro e0;rw[e0] at b1;cases b1;rw[Xt];have:=L' b2;omega;cases hD;cases hD;cases hD
theorem BX{r:DR}(hH:VY C H ρ W)(h:mq op a ρ){t len:Nat}{parts:Array (Nat×Operand)}{ps:List (Nat×SV)}{dst:Option Tmp}{ty:TypeId}{pos:String}{after:Array Edge}{guard:Option (Nat×Bool)}
  (hp:opP op parts.toList=some ps) (hD:rE C t len ps=some r) (hK:∀val W',fX C ρ W nm r val W'->K (a.put dst val) W'):dB C.P C.co ⟨dst,.buildSlice t len parts,ty,pos,after,guard⟩ a W K:=by
 unfold rE at hD;split at hD;cases hD;rename_i ti VL;split at hD;cases hD;rename_i e he;split at hD;cases hD;rename_i ei VG;obtain⟨i1,d1,z1,-,Ws,-,-,-,Xy,-⟩:=(C.ty VL).ex;obtain⟨i2,d2,z2,Zq,WS,Xt,ZC,Y1,-⟩:=(C.ty VG).ex;obtain rfl:d1=.slice e:=by
  cases Wz:ti.k with
  | sl e2=>
   rw[Wz] at he Xy;obtain rfl:=Oi he;cases d1 with
   | slice e3=>simp only[bn,beq_iff_eq] at Xy;rw[Xy]
   | _=>simp[bn] at Xy
  | _=>rw[Wz] at he;cases he
 split at hD
 ·rename_i b1 b2 b3;split at hD
  ·rename_i l hl;split at hD
   ·rename_i VF hpu hle;obtain rfl:=Oi hD;have hzd:=cM (ρ:=ρ) Y1;have b3':=Nb b3;have hle:=Nb hle;have Zn:z2.cells.size=i2.size:=(by have:=aF hzd;rw[Xt,<-b3',<-this];simp);obtain⟨ls,k1,k2⟩:=oF h hp hl (yd (n:=len) hzd);have hlen:=aF k1;have g:Gr W (W.alloc (.cells ls.toArray e)):=(Gr.refl W).alloc _;have Vs:∀(i:Nat) (c:Value),ls[i]? = some c->(W.alloc (.cells ls.toArray e)).cell? ⟨W.heap.size,i,none⟩=some c:=λi c hc=>(by rw[(Xi.new rfl:Xi (W.alloc (.cells ls.toArray e)) W.heap.size ls.toArray e).cell];simpa using hc);refine fN (m9 (ls:=ls.toArray) Ws Zq ZC ?_ ?_ Zn (by rw[Xt];exact k2)) (hK _ _ ?_);rw[Xt];intro e0;rw[e0] at b1;cases b1;rw[Xt];have:=L' b2;omega;refine⟨ρ.km λb i c=>b=W.heap.size∧ls[i]? = some c,⟨Names.bw,λ_ _ h=>.inl h,λ_ _ h=>.inl h,λb i c h=>?_,λ_ _=>rfl,g.os,g.tape,g.output,g.size,λb hb _=>Below.block g b hb,?_⟩,(λn sb h=>by cases h),⟨_,_,rfl,I' _,λi hi=>⟨W.heap.size,0,_,rfl,kh ei.sz i (aJ (Names.le.zo Names.bw) _ _ (cK _ _ hpu k1)),?_,λk c hc=>?_⟩⟩⟩;rcases h with h|h;exact .inl h;exact .inr (by rw[h.1];exact I' _)
    ·have h':=hH.hb.gr g;exact⟨h'.own,h'.low,λb i c h=>by
      rcases h with h|⟨rfl,h⟩
      exact h'.zok b i c h
      ·exact⟨Vs i c h,oi VF k1 c (UM h)⟩,h'.grd⟩
    have:i*ei.sz+ei.sz<=len*ei.sz:=(by rw[<-Nat.succ_mul];exact UG _ hi);simp only[List.length_take,List.length_drop];omega;refine .inr ⟨rfl,?_⟩;rw[List.getElem?_take] at hc;split at hc;rw[List.getElem?_drop] at hc;simpa using hc;cases hc
   cases hD
  cases hD
 cases hD
theorem JP{a:Act}{c:Operand}{b:Bool}(h:a.eval c=.bool b):∀p,p∈exL c b->a.eval (.tmp p.1)=.bool p.2:=by intro p hp;cases c<;>first|(simp[exL] at hp;subst hp;exact h)|(simp[exL] at hp)
theorem EF{r:DR}{fz:Bool}(hH:VY C H ρ W)(hf:r.fr=true->ρ.n nm=none∧ρ.v nm=none)(h:mq op a ρ){o:Oper}(U7:wO o.op=true->o.dst=none)(hD:D Γ fz op H nm o.op=some r)(ho:r.Ob)(hK:∀val W',fX C ρ W nm r val W'->K (a.put o.dst val) W') :
  dB C.P C.co o a W K:=by
 obtain⟨dst,oo,ty,pos,after,guard⟩:=o;have same:∀{v:SV} {y:Value},dv v=some r->den ρ v y->fX C ρ W nm r y W:=λhr hy=>eh hH.hb (bm hr hy);cases oo<;>simp only[D] at hD
 case move x=>
  split at hD;rename_i v hv;exact bF D6 (hK _ _ (same hD (h.get hv)));cases hD
 case assign x=>
  split at hD;rename_i v hv;exact bF vh (hK _ _ (same hD (h.get hv)));cases hD
 case pick c x y=>
  split at hD;rename_i hc;have e:a.eval _=.bool _:=h.get hc;split at hD;rename_i v hv;exact bF (oH e) (hK _ _ (same hD (h _ _ _ hv (JP e))));cases hD;rename_i hc;have e:a.eval _=.bool _:=h.get hc;split at hD;rename_i v hv;exact bF (oH e) (hK _ _ (same hD (h _ _ _ hv (JP e))));cases hD;rename_i b t hc;have e:a.eval (.tmp t)=.bool _:=h.get hc;split at hD;rename_i u v hu hv;split at hD;rename_i z hz;refine bF (oH e) (hK _ _ (same hD (IE hz (λhb=>h _ _ _ hu ?_) (λhb=>h _ _ _ hv ?_))));intro p hp;obtain rfl:=List.mem_singleton.1 hp;rw[e,hb];intro p hp;obtain rfl:=List.mem_singleton.1 hp;rw[e,hb];cases hD;cases hD;cases hD
 case alloc t=>
  split at hD;rename_i ti VL;obtain rfl:=Oi hD;obtain⟨i,d,z,hi,Xb,hs,hz,Wo,hk,-⟩:=(C.ty VL).ex;have:=sn (t:=t) (v:=.p nm 0) hH.hb (hf rfl).1 (cM (ρ:=ρ) Wo) (lA Wo) ⟨W.heap.size,Names.gH,rfl⟩;exact fN (JO hi hz) (hK _ _ (by simpa using this));cases hD
 case box t x=>
  split at hD;rename_i v hv;split at hD;rename_i l hl;split at hD;rename_i VF;obtain rfl:=Oi hD;have hc:=iQ hl (h.get hv);have:=sn (t:=t) (v:=.p nm 0) hH.hb (hf rfl).1 hc (oi VF hc) ⟨W.heap.size,Names.gH,rfl⟩;exact fN QF (hK _ _ (by simpa using this));cases hD;cases hD;cases hD
 case build s parts=>
  split at hD
  ·rename_i ti ps VL Yu;obtain⟨i,d,z,hi,Xb,hs,hz,Wo,hk,-⟩:=(C.ty VL).ex;split at hD
   ·rename_i fs Wz;split at hD
    ·rename_i l hl Vb;rw[Wz] at hk;cases d with
     | struct fs'=>
      have XE:(fs'.toList.map λf=>(f.offset,f.type))=fs:=(by simpa[bn] using hk);obtain⟨ls,k1,k2⟩:=zl h Xb Yu hl (cM (ρ:=ρ) Wo);refine bF (v:=.agg ls.toArray) (JN hi hz Xb ?_ (by simpa using k2)) (hK _ _ (same hD ⟨ls,k1,rfl⟩));intro f hf;exact ED Vb (f.offset,f.type) (by rw[<-XE];exact List.mem_map.2 ⟨f,hf,rfl⟩)
     | _=>simp[bn] at hk
    cases hD
   ·rename_i n e Wz;split at hD
    ·rename_i ei VG;split at hD
     ·rename_i l hl;rw[Wz] at hk;obtain⟨i2,d2,z2,Zq,hdd2,Xt,-⟩:=(C.ty VG).ex;cases d with
      | array n' e'=>
       simp only[bn,Ur,beq_iff_eq] at hk;obtain⟨rfl,rfl⟩:=hk;obtain⟨ls,k1,k2⟩:=oF h Yu hl (cM (ρ:=ρ) Wo);exact bF (v:=.agg ls.toArray) (zx hi hz Xb Zq (by rw[Xt];simpa using k2)) (hK _ _ (same hD ⟨ls,k1,rfl⟩))
      | _=>simp[bn] at hk
     cases hD
    cases hD
   cases hD
  cases hD
 case load t x=>
  split at hD;rename_i v hv;obtain⟨w,hw,hr⟩:=iM hD;obtain⟨u,k2,k3⟩:=yI (dst:=dst) (ty:=ty) (pos:=pos) (after:=after) (guard:=guard) hH hw (h.get hv);exact bF k3 (hK _ _ (same hr k2));cases hD
 case store t x y=>
  obtain rfl:dst=none:=U7 rfl;split at hD;rename_i u v hu hv;obtain⟨W',k1,k2⟩:=EU (nm:=nm) (ty:=ty) (pos:=pos) (after:=after) (guard:=guard) hH hD ho (h.get hu) (h.get hv);unfold dB;rw[k1];exact hK undef W' k2;cases hD
 case fieldAddr s x k=>
  split at hD;rename_i u fo fi hu ZF;obtain⟨w,hw,hr⟩:=iM hD;obtain⟨y,k1,k2⟩:=ur (dst:=dst) (ty:=ty) (pos:=pos) (after:=after) (guard:=guard) (W:=W) ZF hw (h.get hu);exact bF k2 (hK _ _ (same hr k1));cases hD
 case field s x k=>
  split at hD
  ·rename_i l fo fi hx ZF;obtain⟨fs,f,i,d,e1,e2,e3,e4,e5,e6,e7⟩:=iX ZF;obtain⟨vs,ZS,e⟩:=h.get hx;split at hD
   ·rename_i V0;split at hD
    ·rename_i m hm;obtain⟨k1,k2⟩:=iT hm (bX fo ZS);refine bF (vg e e1 e2 (kL e4 e5 (oy e7 V0))) (hK _ _ (same hD ⟨_,k1,?_⟩));rw[e3,e6]
     congr 1
     rw[List.length_drop] at k2;apply Array.ext';simp[List.take_drop,Nat.add_comm]
    cases hD
   rename_i V0;split at hD;rename_i c hc;obtain⟨v,hv,hdv⟩:=fw ZS hc;exact bF (vg e e1 e2 (kK e5 (im e7 V0).1 (im e7 V0).2 (by simpa[e3] using hv))) (hK _ _ (same hD hdv));cases hD
  cases hD
 case binOp o t x y yt=>
  split at hD;rename_i u v hu hv;split at hD;rename_i r' VX;obtain rfl:=Oi hD;obtain⟨y',k1,k2⟩:=Ov (C:=C) (W:=W) (dst:=dst) (ty:=ty) (yt:=yt) (t:=t) (pos:=pos) (after:=after) (guard:=guard) VX ho (h.get hu) (h.get hv);exact bF k2 (hK _ _ (eh hH.hb k1));split at hD;rename_i r' VX;obtain⟨y',k1,k2⟩:=KW (C:=C) (W:=W) (dst:=dst) (ty:=ty) (yt:=yt) (t:=t) (pos:=pos) (after:=after) (guard:=guard) VX (h.get hu) (h.get hv);exact bF k2 (hK _ _ (same hD k1));split at hD;rename_i r' VX;obtain⟨y',k1,k2⟩:=OG (C:=C) (W:=W) (dst:=dst) (ty:=ty) (yt:=yt) (t:=t) (pos:=pos) (after:=after) (guard:=guard) VX (h.get hu) (h.get hv);exact bF k2 (hK _ _ (same hD k1));obtain⟨w,hw,hr⟩:=iM hD;obtain⟨y',k1,k2⟩:=Mm (C:=C) (W:=W) (dst:=dst) (ty:=ty) (yt:=yt) (t:=t) (pos:=pos) (after:=after) (guard:=guard) hw (h.get hu) (h.get hv);exact bF k2 (hK _ _ (same hr k1));cases hD
 case makeMap t rsv=>
  cases rsv with
  | some _=>cases hD
  | none=>
   have hD:pE C nm t=some r:=hD;exact fN (v:=.map (some W.heap.size)) (w':=W.alloc (.map #[] 0)) rfl (hK _ _ (Fo hH (hf (Fp hD)).1 hD))
 case lookup t x i ok=>
  split at hD;rename_i sx si hx hi;obtain⟨y,k1,k2⟩:=Fq hH hD ho (h.get hx) (h.get hi);exact bF (by simp only[execOp,UQ,k1,UO,UP]) (hK _ _ (eh hH.hb k2));cases hD
 case mapUpdate t x i v=>
  split at hD;rename_i sx si sv hx hi hv;obtain rfl:dst=none:=U7 rfl;obtain⟨W',k1,k2⟩:=Fl hH hD ho (h.get hx) (h.get hi) (h.get hv);unfold dB;have k3:(execOp a.eval ⟨none,.mapUpdate t x i v,ty,pos,after,guard⟩).run C.P W=.ok .skip W':=(by simp only[execOp,UQ,k1,UO,UP]);rw[k3];exact hK undef W' (k2 nm);cases hD
 case makeSlice t x y=>
  split at hD;rename_i u v hu hv;obtain⟨w,W',k1,k2⟩:=MN hH (hf (Jd hD)).2 hD ho (h.get hu) (h.get hv);refine fN (v:=w) ?_ (hK _ _ k2);simp only[execOp,UQ,k1,UO,UP];cases hD
 case unOp o t x=>
  split at hD;rename_i u hu;obtain⟨y',k1,k2⟩:=Py (C:=C) (W:=W) (dst:=dst) (ty:=ty) (t:=t) (pos:=pos) (after:=after) (guard:=guard) hD ho (h.get hu);exact bF k2 (hK _ _ (eh hH.hb k1));cases hD
 case extract x k=>
  split at hD;rename_i l hl;split at hD;rename_i v hv;obtain⟨vs,ZS,e⟩:=h.get hl;obtain⟨u,hu,hdu⟩:=fw ZS hv;exact bF (th e (by simpa using hu)) (hK _ _ (same hD hdu));cases hD;cases hD
 case nilCheck x=>
  split at hD;rename_i n off hx;obtain⟨b,hb,e⟩:=h.get hx;exact bF (jF e) (hK _ _ (same hD ⟨b,hb,rfl⟩));rename_i x' off hx;obtain⟨b,o,us,e,k2,k3⟩:=h.get hx;exact bF (jF e) (hK _ _ (same hD ⟨b,o,us,rfl,k2,k3⟩));rename_i m e0 sz i off hx;obtain⟨l,b,p1,po,p2,p3,p4,e⟩:=h.get hx;exact bF (jF e) (hK _ _ (same hD ⟨l,b,p1,po,p2,p3,p4,rfl⟩));rename_i m i sz j off hx;obtain⟨l,b,p1,p2,p3,p4,e⟩:=h.get hx;exact bF (jF e) (hK _ _ (same hD ⟨l,b,p1,p2,p3,p4,rfl⟩));obtain rfl:=Oi hD;exact False.elim ho;cases hD
 case makeFunc fn first captured=>
  split at hD;rename_i x y hx hy;refine bF qE (hK _ _ (same hD ?_));have h1:=ik h hx;have h2:=ik h hy;exact⟨_,_,h1,h2,rfl⟩;cases hD
 case call c=>exact KT hH (λh=>(hf h).2) h hD ho hK
 case convert src dst' x=>
  split at hD;rename_i u hu;obtain⟨y',k1,k2⟩:=Ka (C:=C) (W:=W) (dst:=dst) (ty:=ty) (pos:=pos) (after:=after) (guard:=guard) hD ho (h.get hu);exact bF k2 (hK _ _ (eh hH.hb k1));cases hD
 case buildSlice t len parts=>
  split at hD;rename_i ps Yu;split at hD;exact Gm hH (λh=>(hf h).1) h Yu hD hK;exact BX hH h Yu hD hK;cases hD
 case indexAddr t x i=>
  split at hD;rename_i u v hu hv;obtain⟨y',k1,k2⟩:=JX (dst:=dst) (ty:=ty) (pos:=pos) (after:=after) (guard:=guard) hH hD ho (h.get hu) (h.get hv);exact bF k2 (hK _ _ (eh hH.hb k1));cases hD
 case index t x i=>
  split at hD;rename_i u v hu hv;obtain⟨w,hw,hr⟩:=iM hD;obtain⟨y',k1,k2⟩:=FA (W:=W) (dst:=dst) (ty:=ty) (pos:=pos) (after:=after) (guard:=guard) hw (h.get hu) (h.get hv);exact bF k2 (hK _ _ (same hr k1));cases hD
 case slice t x low high max=>
  split at hD;rename_i u lo hi mx hu h1 h2 h3;obtain⟨y',k1,k2⟩:=EZ (W:=W) (dst:=dst) (ty:=ty) (pos:=pos) (after:=after) (guard:=guard) h hD ho (h.get hu) h1 h2 h3;exact bF k2 (hK _ _ (eh hH.hb k1));cases hD
 all_goals cases hD
theorem iV:∀{l:List SV} {vs:List Value},yn l=true->ao ρ l vs->∀c∈vs,za c
 | [],vs,_,hd=>by obtain rfl:=cq hd;exact λc h=>by cases h
 | x::r,vs,h,hd=>by obtain⟨u,us,rfl,d1,d2⟩:=aN hd;simp only[yn] at h;intro c hc;split at h;rename_i p hp;obtain⟨k,n⟩:=p;rcases UI.1 hc with rfl|hc;rw[SV.int?_den hp d1];trivial;exact iV h d2 c hc;split at h;rename_i b hb;rcases UI.1 hc with rfl|hc;rw[SV.bool?_den hb d1];trivial;exact iV h d2 c hc;cases h
theorem Gv{m:Bool}{o:BinOp}{u v:SV}{r:DR}(h:KX m o u v=some r):∃k n k' n',u.int? = some (k,n)∧v.int? = some (k',n'):=by
 unfold KX Ox at h;split at h;all_goals
  split at h;rename_i k p k' q hp hq;exact⟨k,p,k',q,hp,hq⟩;cases h
theorem GB{o:BinOp}{t:TypeId}{u v w:SV}{x y:Value}(h:K6 C o t u v=some w)(hx:den ρ u x)(hy:den ρ v y):(o=.eql∨o=.neq)∧qB x∧qB y:=by unfold K6 at h;split at h;split at h;split at h;rename_i heq V0;obtain⟨us,ZT,rfl⟩:=hx;obtain⟨vs,ZS,rfl⟩:=hy;exact⟨.inl rfl,λc hc=>iV (fV V0).1 ZT c (by simpa using hc),λc hc=>iV (fV (fV V0).2).1 ZS c (by simpa using hc)⟩;cases h;cases h;split at h;split at h;rename_i heq V0;obtain⟨us,ZT,rfl⟩:=hx;obtain⟨vs,ZS,rfl⟩:=hy;exact⟨.inr rfl,λc hc=>iV (fV V0).1 ZT c (by simpa using hc),λc hc=>iV (fV (fV V0).2).1 ZS c (by simpa using hc)⟩;cases h;cases h;cases h
theorem Tp{r:DR}{fz:Bool}(h:mq op a ρ){o:Oper}(hD:D Γ fz op H nm o.op=some r):NS C.P (execOp a.eval o):=by
 obtain⟨dst,oo,ty,pos,after,guard⟩:=o;cases oo
 case move=>trivial
 case assign=>trivial
 case pick=>exact aa (bK _) λ_=>trivial
 case alloc=>exact aa (yx _) λ_=>trivial
 case box=>exact aa (P3 _ _) λ_=>trivial
 case build=>exact aa (I4 _ _) λ_=>trivial
 case buildSlice=>exact aa (uh _ _ _) λ_=>trivial
 case load=>exact aa (pC _ _) λ_=>trivial
 case store=>exact aa (kP _ _ _) λ_=>trivial
 case extract=>exact aa (sD _ _) λ_=>trivial
 case unOp=>exact aa (I0 _ _) λ_=>trivial
 case makeFunc=>trivial
 case makeSlice=>exact aa (wy _ _ _) λ_=>trivial
 case slice=>exact aa (Bs _ _ _ _ _) λ_=>trivial
 case field=>exact aa (I3 _ _ _) λ_=>trivial
 case indexAddr=>exact aa (sw _ _ _) λ_=>trivial
 case index=>exact aa (yu _ _ _) λ_=>trivial
 case makeMap t rs=>
  cases rs with
  | some _=>cases hD
  | none=>exact aa (qw t) λ_=>trivial
 case nilCheck x=>
  simp only[D] at hD;have key:(∃p,a.eval x=.pointer (some p))->NS C.P (execOp a.eval ⟨dst,.nilCheck x,ty,pos,after,guard⟩):=λ⟨p,e⟩=>(by simp only[execOp,e];trivial);split at hD;rename_i hx;obtain⟨b,-,e⟩:=h.get hx;exact key ⟨_,e⟩;rename_i hx;obtain⟨b,o,us,e,-⟩:=h.get hx;exact key ⟨_,e⟩;rename_i hx;obtain⟨l,b,p1,po,p2,p3,p4,e⟩:=h.get hx;exact key ⟨_,e⟩;rename_i hx;obtain⟨l,b,p1,p2,p3,p4,e⟩:=h.get hx;exact key ⟨_,e⟩;rename_i hx;have e:a.eval x=.pointer none:=h.get hx;simp only[execOp,e];trivial;cases hD
 case fieldAddr s x k=>
  simp only[D] at hD;split at hD;rename_i u fo fi hu ZF;obtain⟨w,hw,-⟩:=iM hD;obtain⟨fs,f,i,d,e1,e2,e3,e4,e5,e6,e7⟩:=iX ZF;unfold kY at hw;split at hw;cases hw;rename_i m hm;exact aa (sC e1 e2 e4 (by omega)) λ_=>trivial;cases hD
 case convert src dst' x=>
  simp only[D] at hD;split at hD;rename_i u hu;unfold Ef at hD;split at hD;rename_i ti hs VL;split at hD;rename_i k hk;split at hD;rename_i k' n hn;have e:=SV.int?_den hn (h.get hu);obtain⟨i,d,z,hi,Xb,WB,hz,Wo,YC,-⟩:=(C.ty VL).ex;rw[hk] at YC;have hd:∃k0,d=.int k0:=(by cases d<;>first|exact⟨_,rfl⟩|cases YC);obtain⟨k0,rfl⟩:=hd;refine aa ?_ λ_=>trivial;rw[e];exact sF Xb;cases hD;cases hD;cases hD;cases hD
 case binOp o t x y yt=>
  simp only[D] at hD;have key:NS C.P (binOp o t (a.eval x) (a.eval y))->NS C.P (execOp a.eval ⟨dst,.binOp o t x y yt,ty,pos,after,guard⟩):=λk=>aa (aa (nH _ _ _ _ _ _) λ_=>k) λ_=>trivial;split at hD;rename_i u v hu hv;split at hD;rename_i r' VX;obtain⟨k,n,k',n',e1,e2⟩:=Gv VX;refine key ?_;rw[SV.int?_den e1 (h.get hu),SV.int?_den e2 (h.get hv)];exact pD _ _ _ _ _ _;split at hD;rename_i r' VX;unfold Et at VX;split at VX;rename_i e1 e2 _ _;refine key ?_;rw[SV.bool?_den e1 (h.get hu),SV.bool?_den e2 (h.get hv)];exact nI (.inl rfl) trivial trivial;rename_i e1 e2 _ _;refine key ?_;rw[SV.bool?_den e1 (h.get hu),SV.bool?_den e2 (h.get hv)];exact nI (.inr rfl) trivial trivial;cases VX;split at hD;rename_i r' VX;obtain⟨e1,e2,e3⟩:=GB VX (h.get hu) (h.get hv);exact key (nI e1 e2 e3);obtain⟨w,hw,-⟩:=iM hD;unfold Mn at hw;split at hw;rename_i b ti hb hn VL;refine key ?_;rw[u0 hn (h.get hv)];obtain⟨p,e1,-⟩:=uO hb (h.get hu);rw[e1];split at hw;exact aa (oq _ _ _) λ_=>trivial;exact aa (oq _ _ _) λ_=>trivial;cases hw;cases hw;cases hD
 case lookup t x i ok=>
  simp only[D] at hD;split at hD;rename_i sx si hx hi;unfold wF at hD;split at hD;split at hD;rename_i k' q h1 hq;refine aa ?_ λ_=>trivial;rw[SV.int?_den hq (h.get hi)];exact Ff _ _ _ _ _;cases hD;cases hD;cases hD
 case mapUpdate t x i v=>
  simp only[D] at hD;split at hD;rename_i sx si sv hx hi hv;unfold wE at hD;split at hD;split at hD;rename_i k' q h1 hq;refine aa ?_ λ_=>trivial;rw[SV.int?_den hq (h.get hi)];exact wx _ _ _ _ _;cases hD;cases hD;cases hD
 case call c=>
  simp only[D] at hD;unfold Ep at hD;have blt:∀b,c.callee=.builtin b->(∀(ats:Array TypeId) (t:TypeId) (cs:Array Bool) (args:Array Value),NS C.P (builtin b ats t cs args))->NS C.P (execOp a.eval ⟨dst,.call c,ty,pos,after,guard⟩):=λb e k=>(by simp only[execOp,resolve,e];exact k _ _ _ _);split at hD
  ·rename_i x WT;split at hD
   ·rename_i sf hsf;split at hD
    ·rename_i g first captured args hg Vh
     split at hD;rename_i con hcon;obtain rfl:=wV hcon;obtain⟨fv,cv,XL,-⟩:=mP h hsf hg Vh;exact ou WT XL con.ns;cases hD
    cases hD
   cases hD
  rename_i e;exact blt _ e λ_ _ _ _=>aa (I2 _ _ _) λ_=>trivial;rename_i e;exact blt _ e λ_ _ _ _=>aa (P0 _ _ _) λ_=>trivial;rename_i e;exact blt _ e λ_ _ _ _=>aa (PZ _ _ _) λ_=>trivial;rename_i e;exact blt _ e λ_ _ _ _=>aa (Fg _ _ _) λ_=>trivial;rename_i e;exact blt _ e λ_ _ _ _=>aa (MH _ _ _) λ_=>trivial;cases hD
 all_goals cases hD
end
end Go.Proofs.YtgigkennhdolpaaGreatDoor
