/- The package variables as they are laid. -/
import Derived.Test.YtgigkennhdolpaaGreatDoorM47
import Derived.Test.YtgigkennhdolpaaGreatDoorM44
import Derived.Test.YtgigkennhdolpaaGreatDoorM45
namespace Go.Proofs.YtgigkennhdolpaaGreatDoor
open Go.ChangeShapes Go.WideShapes Go.ChangeAt Go.RowKit
def pd:List (String×DataW Unit):=[("marches/shape.rooms",Rows.laid_marches_shape_rooms),("marches/store.ranges",Rows.laid_marches_store_ranges)]
theorem Jt(os:Os)(args:Array Value):laidMetH Tryz.prog pd ((World.doorLaid Tryz.prog 319 os).forCall (λ_ _=>0) ⟨#[],args,[]⟩).memory:=
 laidMetH_of_parts3 (fuel:=8) (laidMet_of_run' 8 (by kernel_rfl) (by kernel_rfl)) (by kernel_rfl) (by kernel_rfl)
def CE:List Int:=[0,0,0,0,0,0,0,0,-1048576,1048576,-1048576,1048576,0,0,0,0,-4096,4096,-4096,4096,0,0,0,0,1,16384,1,16384,0,1,0,1,1,8,0,0,0,0,0,0,0,510,0,0,0,0,0,0,0,15,0,0,0,0,0,0,-2147483648,2147483647,-2147483648,2147483647,-2147483648,2147483647,-2147483648,2147483647,0,1048576,0,1048576,0,0,0,0,0,2147483647,0,2147483647,0,2147483647,0,2147483647,-2147483648,2147483647,-2147483648,2147483647,-2147483648,2147483647,-2147483648,2147483647]
def ON(w:World):Prop:=
 w.cell? ⟨1,0,none⟩=some (.func (.func 302) #[] #[])∧w.cell? ⟨1,1,none⟩=some (.func (.func 303) #[] #[]) ∧
 w.cell? ⟨1,2,none⟩=some (.func (.func 304) #[] #[])∧w.cell? ⟨1,3,none⟩=some (.func (.func 305) #[] #[])
theorem zI:Tryz.prog.cellsOf 364=2:=by kernel_rfl
theorem w9:Tryz.prog.cellsOf 363=1:=by kernel_rfl
set_option maxRecDepth 100000 in
theorem tX{W:World}(h:laidMetH Tryz.prog pd W):ON W:=by
 obtain⟨g,t,cs,fuel,p,hg,ht,hv,hd⟩:=h.funcs (n:= "marches/shape.rooms") (Um ..);obtain rfl:=Oi ((show Tryz.prog.globalNamed "marches/shape.rooms" = some 1 by kernel_rfl).symm.trans hg);obtain rfl:=Oi ((show (Tryz.prog.globals[1]?).map (·.type)=some 365 by kernel_rfl).symm.trans ht);have XJ:DataW.trod (funcToken Tryz.prog) Tryz.prog W 0 (λ_=>true) true fuel 365 cs.toList=some (.agg [.agg [.held [109,97,114,99,104,101,115,47,115,104,97,112,101,46,98,111,120,101,115],.held [109,97,114,99,104,101,115,47,115,104,97,112,101,46,98,111,120,67,105,114,99,108,101]],.agg [.held [109,97,114,99,104,101,115,47,115,104,97,112,101,46,99,105,114,99,108,101,66,111,120],.held [109,97,114,99,104,101,115,47,115,104,97,112,101,46,99,105,114,99,108,101,115]]],p):=hd;obtain⟨xs,m,_,hx,hlen,hxl,YQ⟩:=DataW.trod_array Tryz.underlying365 XJ;have Vo:=λk=>World.var?_cell hg hv k;obtain⟨l⟩:=cs;have hl4:l.length=4:=hlen.trans (by kernel_rfl)
 match l,hl4,xs,hxl with
 | [c0,c1,c2,c3],_,[y0,y1],_=>
  have e0:=YQ 0 (by decide);have e1:=YQ 1 (by decide);simp[zI] at e0 e1;simp only[List.map_cons,List.map_nil,Prod.mk.injEq,DataW.agg.injEq,List.cons.injEq,and_true] at hx;obtain⟨xs0,m0,_,hx0,_,hxl0,hel0⟩:=DataW.trod_array Tryz.underlying364 e0;obtain⟨xs1,m1,_,hx1,_,hxl1,hel1⟩:=DataW.trod_array Tryz.underlying364 e1
  match xs0,hxl0,xs1,hxl1 with
  | [z0,z1],_,[z2,z3],_=>
   have f0:=hel0 0 (by decide);have f1:=hel0 1 (by decide);have f2:=hel1 0 (by decide);have f3:=hel1 1 (by decide);simp[w9] at f0 f1 f2 f3;obtain⟨⟨q0,q1⟩,-⟩:=hx;rw[hx0] at q0;rw[hx1] at q1;simp only[List.map_cons,List.map_nil,DataW.agg.injEq,List.cons.injEq,and_true] at q0 q1;obtain⟨a0,a1⟩:=q0;obtain⟨a2,a3⟩:=q1;obtain⟨d0,b0⟩:=z0;obtain⟨d1,b1⟩:=z1;obtain⟨d2,b2⟩:=z2;obtain⟨d3,b3⟩:=z3;subst a0 a1 a2 a3;obtain rfl:=func_of_trod (f0:=302) Tryz.underlying363 (by kernel_rfl) f0;obtain rfl:=func_of_trod (f0:=303) Tryz.underlying363 (by kernel_rfl) f1;obtain rfl:=func_of_trod (f0:=304) Tryz.underlying363 (by kernel_rfl) f2;obtain rfl:=func_of_trod (f0:=305) Tryz.underlying363 (by kernel_rfl) f3;exact⟨Vo 0,Vo 1,Vo 2,Vo 3⟩
def Hv:List Value:=[.func (.func 302) #[] #[],.func (.func 303) #[] #[],.func (.func 304) #[] #[],.func (.func 305) #[] #[]]
theorem yN{W:World}(h:laidMetH Tryz.prog pd W):cx.par.WT W:=by
 have h0:=Bj (C:=cx) (n:= "marches/store.ranges") (g:=0) (t:=256) (vs:=CE.map (Value.int .i64)) h (Ux _ (Um ..)) rfl (by kernel_rfl) (by kernel_rfl) (by kernel_rfl);have h1:ON W:=tX h;refine⟨iu h1.1,λb sb hb=>?_⟩;have hb:look ground b=some sb:=hb;by_cases e:0=b
 ·subst e;obtain rfl:=Oi ((show look ground 0=some _ from rfl).symm.trans hb);refine⟨(by decide:0<1+1),CE.map (Value.int .i64),?_,λi v hv=>h0 i v hv⟩;repeat' (first|exact rfl|(refine aG ?_ ?_))
 by_cases e2:1=b
 ·subst e2;obtain rfl:=Oi ((show look ground 1=some _ from rfl).symm.trans hb);refine⟨(by decide:1<1+1),Hv,?_,λi v hv=>?_⟩
  ·repeat' (first|exact rfl|(refine aG ?_ ?_))
  ·match i,hv with
   | 0,hv=>obtain rfl:=Oi hv;exact h1.1
   | 1,hv=>obtain rfl:=Oi hv;exact h1.2.1
   | 2,hv=>obtain rfl:=Oi hv;exact h1.2.2.1
   | 3,hv=>obtain rfl:=Oi hv;exact h1.2.2.2
   | n+4,hv=>exact Up hv (by simp[Hv])
 unfold ground at hb;rw[ab _ _ e,ab _ _ e2] at hb;cases hb
def ptC:List Pt:=[.int .u8,.int .i64,.int .i64,.int .i64,.int .i64]
def ptE:List Pt:=[.int .i64,.sl 5 ptC]
def RV:List Pt:=[.any,.int .u32,.int .u32,.int .i64]
def RX:List Pt:=[.sl 2 [.int .u8,.int .i64],.int .i64,.int .u32,.int .u32]
def Oo:List Pt:=[.int .i64,.int .i64,.int .i64,.int .i64,.int .i64,.sl 2 ptE,.sl 4 RV,.sl 4 RX,.int .u64,.int .i64,.sl 3 [.int .i64,.int .i64,.int .i64],.int .i64,.int .i64]
theorem Nq{l:WL}(h:Fit (.sl 5 ptC) l.sv):l.Sm:=by obtain⟨-,h1,h2⟩:=h;simp only[maxLen] at h1;refine⟨?_,λi hi=>?_⟩;show (l.n:Int)<=9223372036854775807;omega;have h:0<=(l.c i).kind∧(l.c i).kind<=255:=(h2 i hi).1.2;exact h
theorem MF{l:WU}(h:Fit (.sl 2 ptE) l.sv):l.Sm:=by obtain⟨-,h1,h2⟩:=h;simp only[maxLen] at h1;refine⟨?_,λi hi=>?_⟩;show (l.n:Int)<=9223372036854775807;omega;exact Nq (h2 i hi).2.1
theorem qV{n:Nat}(h:n<=maxLen):(n:Int)<=bY:=by simp only[maxLen] at h;show (n:Int)<=9223372036854775807;omega
theorem KU{z:Va}(h:iY Oo z.cells):z.Sm:=by obtain⟨-,-,-,-,-,h1,⟨-,h2,h6⟩,⟨-,h3,h4⟩,-,-,⟨-,h5,-⟩,-⟩:=h;refine⟨MF h1,qV h2,qV h3,λi hi=>qV (h4 i hi).1.2.1,qV h5,λi hi=>trivial⟩
end Go.Proofs.YtgigkennhdolpaaGreatDoor
