/- A symbolic executor with lists, 2: what each operation does. A symbolic executor with lists, 3: numbers; what an operation yields. -/
import Derived.Test.YtgigkennhdolpaaGreatDoorM0
import Derived.OwnWalk
import Derived.Laws.CopyRow
namespace Go.Proofs.YtgigkennhdolpaaGreatDoor
open Go.RowKit
section
variable {P:Program}{a:Act}{w:World}{K:Act→World→Prop}{Q:Exit→Act→World→Prop}{dst:Option Tmp}{ty:TypeId}{pos:String}{after:Array Edge}{guard:Option (Nat×Bool)}
theorem ex_move{x:Operand} : (execOp a.eval ⟨dst,.move x,ty,pos,after,guard⟩).run P w=.ok (.value (a.eval x)) w:=rfl
theorem ex_assign{x:Operand} : (execOp a.eval ⟨dst,.assign x,ty,pos,after,guard⟩).run P w=.ok (.value (a.eval x)) w:=rfl
theorem ex_pick{c x y:Operand}{b:Bool}(hc:a.eval c=.bool b) :
  (execOp a.eval ⟨dst,.pick c x y,ty,pos,after,guard⟩).run P w=.ok (.value (if b then a.eval x else a.eval y)) w:=by
 simp only[execOp,hc,asBool,Sem.run_bind,Sem.run_pure,Result.andThen_ok]
theorem ex_alloc{t:TypeId}{i:TypeInfo}{z:Value}(hi:P.info? t=some i)(hz:i.zero=some z) :
  (execOp a.eval ⟨dst,.alloc t,ty,pos,after,guard⟩).run P w=.ok (.value (.pointer (some ⟨w.heap.size,0,none⟩))) (w.alloc (.cells z.cells t)):=by
 simp only[execOp,Instr.alloc,zeroValue,typeInfo,Sem.run_bind,run_program,Result.andThen_ok,hi,Sem.run_pure,hz,newVar,newRow,run_newObj]
 rfl
theorem ex_box{t:TypeId}{x:Operand} :
  (execOp a.eval ⟨dst,.box t x,ty,pos,after,guard⟩).run P w=.ok (.value (.pointer (some ⟨w.heap.size,0,none⟩))) (w.alloc (.cells (a.eval x).cells t)):=by
 simp only[execOp,Instr.box,Sem.run_bind,Result.andThen_ok,Sem.run_pure,newVar,newRow,run_newObj]
 rfl
theorem ex_load1{t:TypeId}{x:Operand}{d:TypeDesc}{p:Addr}{v:Value}(hp:a.eval x=.pointer (some p))(hd:P.underlying t=some d)(h1:∀fs,d≠.struct fs)(h2:∀n e,d≠.array n e)(hv:w.cell? p=some v) :
  (execOp a.eval ⟨dst,.load t x,ty,pos,after,guard⟩).run P w=.ok (.value v) w:=by
 simp only[execOp,hp,Instr.loadAt,Instr.sureAddr,loadVar,isAgg,underlying,Sem.run_bind,run_program,Result.andThen_ok,hd,Sem.run_pure]
 cases d<;>first|exact absurd rfl (h1 _)|exact absurd rfl (h2 _ _)|simp only[Sem.run_pure,Result.andThen_ok,Bool.false_eq_true,if_false,run_load,hv]
theorem isAgg_agg{t:TypeId}{d:TypeDesc}(hd:P.underlying t=some d)(h1:(∃fs,d=.struct fs)∨∃n e,d=.array n e):(isAgg t).run P w=.ok true w:=by
 simp only[isAgg,underlying,Sem.run_bind,run_program,Result.andThen_ok,hd,Sem.run_pure]
 rcases h1 with ⟨fs,rfl⟩|⟨n,e,rfl⟩<;>rfl
theorem isAgg_not{t:TypeId}{d:TypeDesc}(hd:P.underlying t=some d)(h1:∀fs,d≠.struct fs)(h2:∀n e,d≠.array n e):(isAgg t).run P w=.ok false w:=by
 cases d<;>first
  | exact absurd rfl (h1 _)
  | exact absurd rfl (h2 _ _)
  | simp only[isAgg,underlying,Sem.run_bind,run_program,Result.andThen_ok,hd,Sem.run_pure]
theorem ex_loadN{t:TypeId}{x:Operand}{d:TypeDesc}{i:TypeInfo}{p:Addr}{cs:List Value}(hp:a.eval x=.pointer (some p))(hi:P.info? t=some i)(hd:P.underlying t=some d)(h1:(∃fs,d=.struct fs)∨∃n e,d=.array n e)
  (hs:i.size=cs.length) (hv:∀j v,cs[j]? = some v→w.cell? (p.add j)=some v) :
  (execOp a.eval ⟨dst,.load t x,ty,pos,after,guard⟩).run P w=.ok (.value (.agg cs.toArray)) w:=by
 simp only[execOp,hp,Instr.loadAt,Instr.sureAddr,loadVar,Sem.run_bind,Result.andThen_ok,isAgg_agg hd h1,Sem.run_pure,if_true,sizeOf,typeInfo,run_program,hi,hs,run_loadCells_list w p cs hv]
theorem ex_field{s:TypeId}{x:Operand}{k:Nat}{fs:Array Field}{f:Field}{i:TypeInfo}{p:Addr}(hp:a.eval x=.pointer (some p))(hd:P.underlying s=some (.struct fs))(hf:fs[k]? = some f)(hi:P.info? f.type=some i)(hs:i.size≠0) :
  (execOp a.eval ⟨dst,.fieldAddr s x k,ty,pos,after,guard⟩).run P w=.ok (.value (.pointer (some (p.add f.offset)))) w:=by
 simp only[execOp,hp,Instr.fieldAt,Instr.sureAddr,underlying,Sem.run_bind,run_program,Result.andThen_ok,hd,Sem.run_pure,hf,fieldPlace,sizeOf,typeInfo,hi,hs,if_false]
theorem jA{e:TypeId}{i:TypeInfo}{d:TypeDesc}{xs:Array Value}{off:Nat}(hi:P.info? e=some i)(hd:P.underlying e=some d)(h1:(∃fs,d=.struct fs)∨∃n e,d=.array n e) :
  (part e xs off).run P w=.ok (.agg (xs.extract off (off+i.size))) w:=by
 simp only[part,Sem.run_bind,isAgg_agg hd h1,Result.andThen_ok,if_true,sizeOf,typeInfo,run_program,hi,Sem.run_pure]
theorem jz{e:TypeId}{d:TypeDesc}{xs:Array Value}{off:Nat}{v:Value}(hd:P.underlying e=some d)(h1:∀fs,d≠.struct fs)(h2:∀n e,d≠.array n e)(hv:xs[off]? = some v) :
  (part e xs off).run P w=.ok v w:=by
 simp only[part,Sem.run_bind,isAgg_not hd h1 h2,Result.andThen_ok,Bool.false_eq_true,if_false,hv,Sem.run_pure]
theorem ex_fieldV{s:TypeId}{x:Operand}{k:Nat}{fs:Array Field}{f:Field}{cs:Array Value}{v:Value}(hp:a.eval x=.agg cs)(hd:P.underlying s=some (.struct fs))(hf:fs[k]? = some f)(hv:(part f.type cs f.offset).run P w=.ok v w) :
  (execOp a.eval ⟨dst,.field s x k,ty,pos,after,guard⟩).run P w=.ok (.value v) w:=by
 simp only[execOp,hp,Instr.field,asAgg,underlying,Sem.run_bind,run_program,Result.andThen_ok,hd,Sem.run_pure,hf,hv]
theorem gC{op:BinOp}{t yt:TypeId}{x y:Operand}{v:Value}(hg:(eqGuard op t x y (a.eval x) (a.eval y)).run P w=.ok () w)(hv:(binOp op t (a.eval x) (a.eval y)).run P w=.ok v w) :
  (execOp a.eval ⟨dst,.binOp op t x y yt,ty,pos,after,guard⟩).run P w=.ok (.value v) w:=by
 simp only[execOp,Sem.run_bind,hg,hv,Result.andThen_ok,Sem.run_pure]
theorem ex_un{op:UnOp}{t:TypeId}{x:Operand}{v:Value}(hv:(Op.unary op (a.eval x)).run P w=.ok v w) :
  (execOp a.eval ⟨dst,.unOp op t x,ty,pos,after,guard⟩).run P w=.ok (.value v) w:=by
 simp only[execOp,Sem.run_bind,hv,Result.andThen_ok,Sem.run_pure]
theorem ex_extract{x:Operand}{k:Nat}{vs:Array Value}{v:Value}(hx:a.eval x=.tuple vs)(hv:vs[k]? = some v) :
  (execOp a.eval ⟨dst,.extract x k,ty,pos,after,guard⟩).run P w=.ok (.value v) w:=by
 simp only[execOp,hx,Instr.extract,hv,Sem.run_bind,Result.andThen_ok,Sem.run_pure]
theorem iH{x:Operand}{p:Addr}(hx:a.eval x=.pointer (some p)) :
  (execOp a.eval ⟨dst,.nilCheck x,ty,pos,after,guard⟩).run P w=.ok (.value (.pointer (some p))) w:=by
 simp only[execOp,hx,Sem.run_pure]
theorem oO{fn:Fn}{first captured:Array Operand} :
  (execOp a.eval ⟨dst,.makeFunc fn first captured,ty,pos,after,guard⟩).run P w=.ok (.value (.func fn (first.map a.eval) (captured.map a.eval))) w:=by
 simp only[execOp,Instr.makeFunc,Sem.run_bind,Result.andThen_ok,Sem.run_pure]
theorem ja{op:BinOp}{t:TypeId}{x y:Operand}{k k':IntKind}{n m:Int} : (eqGuard op t x y (.int k n) (.int k' m)).run P w=.ok () w:=by
 simp only[eqGuard];split<;>rfl
theorem guard_bool{op:BinOp}{t:TypeId}{x y:Operand}{n m:Bool} : (eqGuard op t x y (.bool n) (.bool m)).run P w=.ok () w:=by
 simp only[eqGuard];split<;>rfl
end
def eD(P:Program)(w:World)(size m:Nat)(x:Value)(news:List Value):Prop:=news.length=m*size∧∀w':World,(∀b:Nat,b<w.heap.size→w'.heap[b]? = w.heap[b]?)→(Builtin.firstCells size m x).run P w'=.ok news.toArray w'
theorem dE{P:Program}{w:World}{size m:Nat}{a:Addr}{len cap:Nat}{news:List Value}(hl:news.length=m*size)(h:∀j u,news[j]? = some u→w.cell? (a.add j)=some u):eD P w size m (.slice (some a) len cap) news:=
 ⟨hl,fun w' hw=>run_firstCells_some (P:=P) w' size m a len cap news hl fun j u hj=>by
  have h1:=h j u hj
  have h2:=hw _ (World.block_lt_of_cell? w _ h1)
  unfold World.cell? at h1 ⊢
  rw[h2];exact h1⟩
theorem iG{P:Program}{w:World}{size len cap:Nat} : eD P w size 0 (.slice none len cap) []:=⟨by simp,fun w' _=>run_firstCells_none (P:=P) w' size 0 len cap⟩
theorem mG{P:Program}{w:World}{t ty e:TypeId}{i:TypeInfo}(ht:P.underlying t=some (.slice e))(hi:P.info? e=some i){g sLen sCap:Nat}{cur:Array Value}(hg:w.heap[g]? = some (.cells cur e (0,0)))
  {a:Option Addr} {m c:Nat} {news:List Value} (hn:eD P w i.size m (.slice a m c) news) (h1:∀u∈news,u.oneCell'=true) (hroom:sLen+m≤sCap) (hfit:sLen*i.size+news.length≤cur.size) :
  (Builtin.append_ #[t,t] ty #[.slice (some ⟨g,0,none⟩) sLen sCap,.slice a m c]).run P w =
   .ok (.slice (some ⟨g,0,none⟩) (sLen+m) sCap) (w.setRow g (cur.toList.take (sLen*i.size)++news++cur.toList.drop (sLen*i.size+news.length)).toArray):=by
 have hf:=hn.2 w fun _ _=>rfl
 have hadd:(⟨g,0,none⟩:Addr).add (sLen*i.size)=⟨g,sLen*i.size,none⟩:=by unfold Addr.add;split<;>simp_all
 have hst:=run_storeCells_at (P:=P) g (sLen*i.size) e news 0 cur w hg (by simpa using hfit) h1
 simp only[Nat.add_zero] at hst
 simp[Builtin.append_,run_underlying ht,sizeOf,typeInfo,hi,Builtin.lenOf,hroom,hf,hadd,hst]
theorem oy{P:Program}{w:World}{t ty e:TypeId}{i:TypeInfo}(ht:P.underlying t=some (.slice e))(hi:P.info? e=some i){b a:Option Addr}{sCap c:Nat}{n:Nat}
  (hn:eD P w i.size 0 (.slice a 0 c) []) (hroom:n≤sCap) :
  (Builtin.append_ #[t,t] ty #[.slice b n sCap,.slice a 0 c]).run P w=.ok (.slice b n sCap) w:=by
 have hf:=hn.2 w fun _ _=>rfl
 cases b with
 | none=>simp[Builtin.append_,run_underlying ht,sizeOf,typeInfo,hi,Builtin.lenOf,hroom,hf]
 | some b=>simp[Builtin.append_,run_underlying ht,sizeOf,typeInfo,hi,Builtin.lenOf,hroom,hf,storeCells]
theorem gK{P:Program}{w:World}{t ty e:TypeId}{i:TypeInfo}{z:Value}(ht:P.underlying t=some (.slice e))(hi:P.info? e=some i)(hz:i.zero=some z)
  {b:Option Addr} {sLen sCap:Nat} {olds:List Value} (ho:eD P w i.size sLen (.slice b sLen sCap) olds)
  {a:Option Addr} {n c:Nat} {news:List Value} (hn:eD P w i.size n (.slice a n c) news)
  (hg:sCap<sLen+n) (h63:sLen+n≤maxLen) (hby:(sLen+n)*i.bytes≤140737488355328) :
  (Builtin.append_ #[t,t] ty #[.slice b sLen sCap,.slice a n c]).run P w =
   .ok (.slice (some ⟨w.heap.size,0,none⟩) (sLen+n) (grownCap w (sLen+n) sCap e))
    (w.drew.alloc (.cells (olds.toArray++news.toArray++Builtin.zeroCells z.cells (grownCap w (sLen+n) sCap e-(sLen+n))) e)):=by
 have hfit:=growslice_fits hg hby
 have hm:sLen+n≤9223372036854775807:=by simp only[maxLen] at h63;omega
 have hno:¬(sLen+n≤sCap):=by omega
 have h63':¬(9223372036854775807<((sLen:Int)+(n:Int))):=by omega
 have h48':¬(281474976710656<Builtin.nextslicecap (sLen+n) sCap*i.bytes):=by omega
 have hf:=hn.2 w.drew fun _ _=>rfl
 have hfo:=ho.2 w.drew fun _ _=>rfl
 simp[Builtin.append_,run_underlying ht,sizeOf,typeInfo,zeroValue,hi,hz,Builtin.lenOf,hno,h63',h48',Question.forced,hf,hfo,newRow,grownCap]
 congr 2
 apply Array.ext'
 simp[List.append_assoc]
section
variable {P:Program}{a:Act}{w:World}{dst:Option Tmp}{ty:TypeId}{pos:String}{after:Array Edge}{guard:Option (Nat×Bool)}
theorem ex_index{t e:TypeId}{x i:Operand}{k:Nat}{len:Nat}{cs:Array Value}{v:Value}{inf:TypeInfo}{kk:IntKind}(hx:a.eval x=.agg cs)(hi:a.eval i=.int kk (k:Int))(hk:k<len)(hd:P.underlying t=some (.array len e))(hinf:P.info? e=some inf)
  (hv:(part e cs (k*inf.size)).run P w=.ok v w):(execOp a.eval ⟨dst,.index t x i,ty,pos,after,guard⟩).run P w=.ok (.value v) w:=by
 have hc:(0:Int)≤(k:Int)∧(k:Int)<(len:Int):=⟨by omega,by omega⟩
 simp only[execOp,hx,hi,Instr.index,asIntOf,underlying,sizeOf,typeInfo,Sem.run_bind,Sem.run_pure,run_program,Result.andThen_ok,hd,hinf,if_pos hc,Int.toNat_natCast,hv]
theorem ij{t e:TypeId}{x i:Operand}{k:Int}{len cap:Nat}{b:Addr}{inf:TypeInfo}{kk:IntKind}(hx:a.eval x=.slice (some b) len cap)(hi:a.eval i=.int kk k)(hk:0≤k∧k<len)(hd:P.underlying t=some (.slice e))(hinf:P.info? e=some inf) :
  (execOp a.eval ⟨dst,.indexAddr t x i,ty,pos,after,guard⟩).run P w=.ok (.value (.pointer (some (b.add (k.toNat*inf.size))))) w:=by
 simp only[execOp,hx,hi,Instr.indexAt,asIntOf,underlying,sizeOf,typeInfo,Sem.run_bind,Sem.run_pure,run_program,Result.andThen_ok,hd,hinf,if_pos hk]
theorem gj{t e:TypeId}{x i:Operand}{k:Int}{len:Nat}{b:Addr}{inf:TypeInfo}{kk:IntKind}(hx:a.eval x=.pointer (some b))(hi:a.eval i=.int kk k)(hk:0≤k∧k<len)(hd:P.underlying t=some (.array len e))(hinf:P.info? e=some inf) :
  (execOp a.eval ⟨dst,.indexAddr t x i,ty,pos,after,guard⟩).run P w=.ok (.value (.pointer (some (b.add (k.toNat*inf.size))))) w:=by
 simp only[execOp,hx,hi,Instr.indexAt,Instr.sureAddr,asIntOf,underlying,sizeOf,typeInfo,Sem.run_bind,Sem.run_pure,run_program,Result.andThen_ok,hd,hinf,if_pos hk]
theorem aY{low high max:Option Value}{isS:Bool}{len cap:Nat}{l h m:Nat}(hm:(max=none∧m=cap)∨∃k i,max=some (.int k i)∧0≤i∧i≤cap∧m=i.toNat)
  (hh:(high=none∧max=none∧h=len)∨∃k i,high=some (.int k i)∧0≤i∧i≤m∧h=i.toNat) (hl:(low=none∧l=0)∨∃k i,low=some (.int k i)∧0≤i∧i≤h∧l=i.toNat) :
  (Instr.sliceBounds isS len cap low high max).run P w=.ok (l,h,m) w:=by
 rcases hm with ⟨rfl,rfl⟩|⟨k,i,rfl,h1,h2,rfl⟩<;>rcases hh with ⟨rfl,h0,rfl⟩|⟨k',i',rfl,h3,h4,rfl⟩<;>rcases hl with ⟨rfl,rfl⟩|⟨k2,i2,rfl,h5,h6,rfl⟩
 all_goals first
  | (simp only[Instr.sliceBounds,Instr.sliceBound,asIntOf,Sem.run_bind,Sem.run_pure,Result.andThen_ok,if_pos (⟨h1,h2⟩:0≤i∧i≤(_:Int)),if_pos (⟨h3,h4⟩:0≤i'∧i'≤(_:Int)),if_pos (⟨h5,h6⟩:0≤i2∧i2≤(_:Int))];done)
  | (simp only[Instr.sliceBounds,Instr.sliceBound,asIntOf,Sem.run_bind,Sem.run_pure,Result.andThen_ok,if_pos (⟨h3,h4⟩:0≤i'∧i'≤(_:Int)),if_pos (⟨h5,h6⟩:0≤i2∧i2≤(_:Int))];done)
  | (simp only[Instr.sliceBounds,Instr.sliceBound,asIntOf,Sem.run_bind,Sem.run_pure,Result.andThen_ok,if_pos (⟨h1,h2⟩:0≤i∧i≤(_:Int)),if_pos (⟨h3,h4⟩:0≤i'∧i'≤(_:Int))];done)
  | (simp only[Instr.sliceBounds,Instr.sliceBound,asIntOf,Sem.run_bind,Sem.run_pure,Result.andThen_ok,if_pos (⟨h3,h4⟩:0≤i'∧i'≤(_:Int))];done)
  | (simp only[Instr.sliceBounds,Instr.sliceBound,asIntOf,Sem.run_bind,Sem.run_pure,Result.andThen_ok,if_pos (⟨h5,h6⟩:0≤i2∧i2≤(_:Int))];done)
  | (simp only[Instr.sliceBounds,Instr.sliceBound,asIntOf,Sem.run_bind,Sem.run_pure,Result.andThen_ok];done)
  | cases h0
theorem c0{t e:TypeId}{x:Operand}{low high max:Option Operand}{b:Option Addr}{len cap l h m:Nat}{inf:TypeInfo}(hx:a.eval x=.slice b len cap)(hd:P.underlying t=some (.slice e))(hinf:P.info? e=some inf)
  (hb:(Instr.sliceBounds true len cap (low.map a.eval) (high.map a.eval) (max.map a.eval)).run P w=.ok (l,h,m) w) :
  (execOp a.eval ⟨dst,.slice t x low high max,ty,pos,after,guard⟩).run P w=.ok (.value (.slice (if m=l then b else b.map (·.add (l*inf.size))) (h-l) (m-l))) w:=by
 simp only[execOp,hx,Instr.sliceAt,Instr.slice,underlying,sizeOf,typeInfo,Sem.run_bind,Sem.run_pure,run_program,Result.andThen_ok,hd,hinf,hb]
theorem ex_sliceArr{t e:TypeId}{x:Operand}{low high max:Option Operand}{b:Addr}{n l h m:Nat}{inf:TypeInfo}(hx:a.eval x=.pointer (some b))(hd:P.underlying t=some (.array n e))(hinf:P.info? e=some inf)
  (hb:(Instr.sliceBounds false n n (low.map a.eval) (high.map a.eval) (max.map a.eval)).run P w=.ok (l,h,m) w) :
  (execOp a.eval ⟨dst,.slice t x low high max,ty,pos,after,guard⟩).run P w=.ok (.value (.slice (some (if m=l then b else b.add (l*inf.size))) (h-l) (m-l))) w:=by
 simp only[execOp,hx,Instr.sliceAt,Instr.sureAddr,underlying,sizeOf,typeInfo,Sem.run_bind,Sem.run_pure,run_program,Result.andThen_ok,hd,hinf,hb]
end
structure DR where
 ob:Option Prop
 v:SV
 w:Option (Nat×SB)
 fr:Bool
def mb:Option Prop→Prop
 | none=>True
 | some p=>p
def DR.Ob(r:DR):Prop:=mb r.ob
def dv(v:SV):Option DR:=some ⟨none,v,none,false⟩
def dvo(p:Prop)(v:SV):Option DR:=some ⟨some p,v,none,false⟩
def InR(n:Int):Prop:=-9223372036854775808≤n∧n≤9223372036854775807
theorem InR.wrap{n:Int}(h:InR n):IntKind.i64.wrap n=n:=by
 have e1:((2:Int)^IntKind.i64.bits)=18446744073709551616:=by decide
 have e2:((2:Int)^(IntKind.i64.bits-1))=9223372036854775808:=by decide
 unfold InR at h
 unfold IntKind.wrap
 rw[e1,e2]
 simp only[IntKind.signed,Bool.true_and,decide_eq_true_eq]
 split<;>omega
def inRB:Int→Bool
 | .ofNat m=>Nat.ble m 9223372036854775807
 | .negSucc m=>Nat.ble m 9223372036854775807
theorem inRB_ok{n:Int}(h:inRB n=true):InR n:=by
 cases n with
 | ofNat m=>have:=Nat.le_of_ble_eq_true h;unfold InR;simp only[Int.ofNat_eq_natCast];omega
 | negSucc m=>have:=Nat.le_of_ble_eq_true h;unfold InR;omega
def SV.int?:SV→Option (IntKind×Int)
 | .il k n=>some (k,n)
 | .v (.int k n)=>some (k,n)
 | _=>none
theorem SV.int?_den{x:SV}{k:IntKind}{n:Int}{ρ:Names}{y:Value}(h:x.int? = some (k,n))(hd:den ρ x y):y=.int k n:=by
 unfold SV.int? at h
 split at h
 ·obtain⟨rfl,rfl⟩:=Prod.mk.inj (Oi h);exact hd
 ·obtain⟨rfl,rfl⟩:=Prod.mk.inj (Oi h);exact hd
 ·cases h
def SV.bool?:SV→Option Bool
 | .bl b=>some b
 | .v (.bool b)=>some b
 | _=>none
theorem SV.bool?_den{x:SV}{b:Bool}{ρ:Names}{y:Value}(h:x.bool? = some b)(hd:den ρ x y):y=.bool b:=by
 unfold SV.bool? at h
 split at h
 ·obtain rfl:=Oi h;exact hd
 ·obtain rfl:=Oi h;exact hd
 ·cases h
def isI64:IntKind→Bool
 | .i64=>true
 | _=>false
theorem isI64_eq{k:IntKind}(h:isI64 k=true):k=.i64:=by cases k<;>first|rfl|cases h
def iA:IntKind→IntKind→Bool
 | .i8,.i8=>true|.i16,.i16=>true|.i32,.i32=>true|.i64,.i64=>true
 | .u8,.u8=>true|.u16,.u16=>true|.u32,.u32=>true|.u64,.u64=>true
 | _,_=>false
theorem dM{k k':IntKind}(h:iA k k'=true):k=k':=by
 cases k<;>cases k'<;>first|rfl|cases h
def arI(k:IntKind)(lit:Bool)(p:Option Prop)(n:Int):Option DR:=
 match isI64 k,lit,p with
 | true,true,none=>match inRB n with|true=>dv (.il .i64 n)|false=>none
 | true,_,none=>dvo (InR n) (.v (.int .i64 n))
 | true,_,some p=>dvo (p∧InR n) (.v (.int .i64 n))
 | false,true,none=>dv (.il k (k.wrap n))
 | false,_,none=>dv (.v (.int k (k.wrap n)))
 | false,_,some p=>dvo p (.v (.int k (k.wrap n)))
def raI(k:IntKind)(lit:Bool)(p:Option Prop)(n:Int):Option DR:=
 match lit,p with
 | true,none=>dv (.il k n)
 | _,none=>dv (.v (.int k n))
 | _,some p=>dvo p (.v (.int k n))
def cmI(lit:Bool)(b:Bool):Option DR:=match lit with|true=>dv (.bl b)|false=>dv (.v (.bool b))
def eK(op:BinOp)(k:IntKind)(a b:Int):Int:=
 match op with
 | .and=>k.wrap (BitVec.ofInt k.bits a &&& BitVec.ofInt k.bits b).toNat
 | .or=>k.wrap (BitVec.ofInt k.bits a ||| BitVec.ofInt k.bits b).toNat
 | .xor=>k.wrap (BitVec.ofInt k.bits a ^^^ BitVec.ofInt k.bits b).toNat
 | _=>k.wrap (BitVec.ofInt k.bits a &&& ~~~(BitVec.ofInt k.bits b)).toNat
def nzO(l:Bool)(b:Int):Option Prop:=match l with|true=>(match b with|.ofNat 0=>some (¬b=0)|_=>none)|false=>some (¬b=0)
def geO(l:Bool)(b:Int):Option Prop:=match l with|true=>(match b with|.ofNat _=>none|_=>some (0≤b))|false=>some (0≤b)
theorem nzO_ok{l:Bool}{b:Int}(h:mb (nzO l b)):¬b=0:=by
 unfold nzO at h
 split at h
 ·split at h
  ·exact h
  ·rename_i hn
   intro e
   subst e
   exact hn rfl
 ·exact h
theorem geO_ok{l:Bool}{b:Int}(h:mb (geO l b)):0≤b:=by
 unfold geO at h
 split at h
 ·split at h
  ·exact Int.natCast_nonneg _
  ·exact h
 ·exact h
def binInt(op:BinOp)(k:IntKind)(la lb:Bool)(a b:Int):Option DR:=
 match op with
 | .add=>arI k (la&&lb) none (a+b)
 | .sub=>arI k (la&&lb) none (a-b)
 | .mul=>arI k (la&&lb) none (a*b)
 | .lss=>cmI (la&&lb) (decide (a<b))
 | .leq=>cmI (la&&lb) (decide (a≤b))
 | .gtr=>cmI (la&&lb) (decide (b<a))
 | .geq=>cmI (la&&lb) (decide (b≤a))
 | .eql=>cmI (la&&lb) (decide (a=b))
 | .neq=>cmI (la&&lb) (decide (¬a=b))
 | .quo=>arI k (la&&lb) (nzO lb b) (a.tdiv b)
 | .rem=>raI k (la&&lb) (nzO lb b) (a.tmod b)
 | .and=>raI k false none (eK .and k a b)
 | .or=>raI k false none (eK .or k a b)
 | .xor=>raI k false none (eK .xor k a b)
 | .andNot=>raI k false none (eK .andNot k a b)
 | _=>none
def shInt(op:BinOp)(k:IntKind)(la lb:Bool)(a b:Int):Option DR:=
 match op with
 | .shl=>raI k (la&&lb) (geO lb b) (k.wrap (a*2^(min b.toNat k.bits)))
 | .shr=>raI k (la&&lb) (geO lb b) (a.fdiv (2^(min b.toNat k.bits)))
 | _=>none
theorem dv_ok{v:SV}{r:DR}(h:dv v=some r):r.w=none∧r.fr=false∧r.v=v:=by obtain rfl:=Oi h;exact⟨rfl,rfl,rfl⟩
def Yields(r:DR)(ρ:Names)(y:Value):Prop:=r.w=none∧r.fr=false∧den ρ r.v y
theorem oc{k:IntKind}{lit:Bool}{p:Option Prop}{n:Int}{r:DR}{ρ:Names}(h:arI k lit p n=some r)(ho:r.Ob):mb p∧Yields r ρ (.int k (k.wrap n)):=by
 unfold arI at h
 split at h
 ·rename_i hk
  obtain rfl:=isI64_eq hk
  split at h
  ·rename_i hb
   obtain rfl:=Oi h
   exact⟨trivial,rfl,rfl,by show _=_;rw[(inRB_ok hb).wrap]⟩
  ·cases h
 ·rename_i hk _
  obtain rfl:=isI64_eq hk
  obtain rfl:=Oi h
  exact⟨trivial,rfl,rfl,by show _=_;rw[InR.wrap ho]⟩
 ·rename_i hk
  obtain rfl:=isI64_eq hk
  obtain rfl:=Oi h
  exact⟨ho.1,rfl,rfl,by show _=_;rw[InR.wrap ho.2]⟩
 ·obtain rfl:=Oi h
  exact⟨trivial,rfl,rfl,rfl⟩
 ·obtain rfl:=Oi h
  exact⟨trivial,rfl,rfl,rfl⟩
 ·obtain rfl:=Oi h
  exact⟨ho,rfl,rfl,rfl⟩
theorem l9{k:IntKind}{lit:Bool}{p:Option Prop}{n:Int}{r:DR}{ρ:Names}(h:raI k lit p n=some r)(ho:r.Ob):mb p∧Yields r ρ (.int k n):=by
 unfold raI at h
 split at h
 ·obtain rfl:=Oi h
  exact⟨trivial,rfl,rfl,rfl⟩
 ·obtain rfl:=Oi h
  exact⟨trivial,rfl,rfl,rfl⟩
 ·obtain rfl:=Oi h
  exact⟨ho,rfl,rfl,rfl⟩
theorem n8{lit:Bool}{c:Bool}{r:DR}{ρ:Names}(h:cmI lit c=some r):Yields r ρ (.bool c):=by
 unfold cmI at h
 split at h<;>obtain rfl:=Oi h<;>exact⟨rfl,rfl,rfl⟩
theorem bI{P:Program}{w:World}{op:BinOp}{t:TypeId}{k:IntKind}{a b:Int}(h1:op≠.shl)(h2:op≠.shr) :
  (binOp op t (.int k a) (.int k b)).run P w=(match op with
   | .add|.sub|.mul=>Op.intArith op k a b
   | .quo|.rem=>Op.intDiv op k a b
   | .and|.or|.xor|.andNot=>Op.intBits op k a b
   | _=>Op.intCmp op a b).run P w:=by
 cases op<;>first|exact absurd rfl h1|exact absurd rfl h2|simp[binOp]
theorem binInt_ok{P:Program}{w:World}{op:BinOp}{k:IntKind}{la lb:Bool}{a b:Int}{t:TypeId}{r:DR}{ρ:Names}(h:binInt op k la lb a b=some r)(ho:r.Ob) :
  ∃y,Yields r ρ y∧(binOp op t (.int k a) (.int k b)).run P w=.ok y w:=by
 unfold binInt at h
 split at h
 ·exact⟨_,(oc h ho).2,by rw[bI (by decide) (by decide)];rfl⟩
 ·exact⟨_,(oc h ho).2,by rw[bI (by decide) (by decide)];rfl⟩
 ·exact⟨_,(oc h ho).2,by rw[bI (by decide) (by decide)];rfl⟩
 ·exact⟨_,n8 h,by rw[bI (by decide) (by decide)];rfl⟩
 ·exact⟨_,n8 h,by rw[bI (by decide) (by decide)];rfl⟩
 ·exact⟨_,n8 h,by rw[bI (by decide) (by decide)];rfl⟩
 ·exact⟨_,n8 h,by rw[bI (by decide) (by decide)];rfl⟩
 ·exact⟨_,n8 h,by rw[bI (by decide) (by decide)];rfl⟩
 ·exact⟨_,n8 h,by rw[bI (by decide) (by decide),decide_not];rfl⟩
 ·obtain⟨h1,h2⟩:=oc (ρ:=ρ) h ho
  have h1:=nzO_ok h1
  exact⟨_,h2,by rw[bI (by decide) (by decide)];simp only[Op.intDiv,if_neg h1,Sem.run_pure]⟩
 ·obtain⟨h1,h2⟩:=l9 (ρ:=ρ) h ho
  have h1:=nzO_ok h1
  exact⟨_,h2,by rw[bI (by decide) (by decide)];simp only[Op.intDiv,if_neg h1,Sem.run_pure]⟩
 ·exact⟨_,(l9 h ho).2,by rw[bI (by decide) (by decide)];rfl⟩
 ·exact⟨_,(l9 h ho).2,by rw[bI (by decide) (by decide)];rfl⟩
 ·exact⟨_,(l9 h ho).2,by rw[bI (by decide) (by decide)];rfl⟩
 ·exact⟨_,(l9 h ho).2,by rw[bI (by decide) (by decide)];rfl⟩
 ·cases h
def binIntW(op:BinOp)(k:IntKind)(la lb:Bool)(a b:Int):Option DR:=
 match la&&lb,op with
 | false,.add=>dv (.v (.int k (k.wrap (a+b))))
 | false,.sub=>dv (.v (.int k (k.wrap (a-b))))
 | false,.mul=>dv (.v (.int k (k.wrap (a*b))))
 | _,_=>binInt op k la lb a b
theorem yieldsW{r:DR}{ρ:Names}{v:Value}(h:dv (.v v)=some r):Yields r ρ v:=by obtain rfl:=Oi h;exact⟨rfl,rfl,rfl⟩
theorem binIntW_ok{P:Program}{w:World}{op:BinOp}{k:IntKind}{la lb:Bool}{a b:Int}{t:TypeId}{r:DR}{ρ:Names}(h:binIntW op k la lb a b=some r)(ho:r.Ob) :
  ∃y,Yields r ρ y∧(binOp op t (.int k a) (.int k b)).run P w=.ok y w:=by
 unfold binIntW at h
 split at h
 ·exact⟨_,yieldsW h,by rw[bI (by decide) (by decide)];rfl⟩
 ·exact⟨_,yieldsW h,by rw[bI (by decide) (by decide)];rfl⟩
 ·exact⟨_,yieldsW h,by rw[bI (by decide) (by decide)];rfl⟩
 ·exact binInt_ok h ho
theorem shInt_ok{P:Program}{w:World}{op:BinOp}{k k':IntKind}{la lb:Bool}{a b:Int}{t:TypeId}{r:DR}{ρ:Names}(h:shInt op k la lb a b=some r)(ho:r.Ob) :
  ∃y,Yields r ρ y∧(binOp op t (.int k a) (.int k' b)).run P w=.ok y w:=by
 unfold shInt at h
 split at h
 ·obtain⟨h1,h2⟩:=l9 (ρ:=ρ) h ho
  have h1:¬b<0:=by have:=geO_ok h1;omega
  exact⟨_,h2,by simp only[binOp,Op.shift,if_neg h1,Sem.run_pure]⟩
 ·obtain⟨h1,h2⟩:=l9 (ρ:=ρ) h ho
  have h1:¬b<0:=by have:=geO_ok h1;omega
  exact⟨_,h2,by simp only[binOp,Op.shift,if_neg h1,Sem.run_pure]⟩
 ·cases h
def pickD(b:Bool)(x y:SV):Option SV:=
 match x,y with
 | .bl true,y=>match y.bool? with|some c=>some (.v (.bool (b||c)))|none=>none
 | x,.bl false=>match x.bool? with|some c=>some (.v (.bool (b&&c)))|none=>none
 | x,y=>match x.bool?,y.bool? with
  | some c,some d=>some (.v (.bool (if b then c else d)))
  | _,_=>match x.int?,y.int? with
   | some (k,m),some (k',n)=>match iA k k' with|true=>some (.v (.int k (if b then m else n)))|false=>none
   | _,_=>none
theorem pickD_ok{b:Bool}{x y z:SV}{ρ:Names}{u v:Value}(h:pickD b x y=some z)(hx:b=true→den ρ x u)(hy:b=false→den ρ y v):den ρ z (if b then u else v):=by
 unfold pickD at h
 split at h
 ·split at h
  ·rename_i c hc
   obtain rfl:=Oi h
   cases b
   ·rw[SV.bool?_den hc (hy rfl)];rfl
   ·have:u=.bool true:=hx rfl
    rw[this];rfl
  ·cases h
 ·split at h
  ·rename_i c hc
   obtain rfl:=Oi h
   cases b
   ·have:v=.bool false:=hy rfl
    rw[this];rfl
   ·rw[SV.bool?_den hc (hx rfl)];rfl
  ·cases h
 ·split at h
  ·rename_i c d hc hd
   obtain rfl:=Oi h
   cases b
   ·rw[SV.bool?_den hd (hy rfl)];rfl
   ·rw[SV.bool?_den hc (hx rfl)];rfl
  ·split at h
   ·rename_i k m k' n hm hn
    split at h
    ·rename_i hk
     obtain rfl:=dM hk
     obtain rfl:=Oi h
     cases b
     ·rw[SV.int?_den hn (hy rfl)];rfl
     ·rw[SV.int?_den hm (hx rfl)];rfl
    ·cases h
   ·cases h
def SV.iv:SV→Int
 | .il _ n=>n
 | .v (.int _ n)=>n
 | _=>0
def SV.bv:SV→Bool
 | .bl b=>b
 | .v (.bool b)=>b
 | _=>false
def SV.rn:SV→Nat
 | .rs _ n _=>n
 | _=>0
def SV.rf:SV→Nat→List SV
 | .rs _ _ h=>h
 | _=>fun _=>[]
def SV.al:SV→List SV
 | .agg l=>l
 | _=>[]
def hdS:List SV→SV
 | x::_=>x
 | []=>.e
def tlS:List SV→List SV
 | _::r=>r
 | []=>[]
mutual
def jn(c:Bool):SV→SV→SV
 | .v (.int k b),x=>.v (.int k (bif c then b else x.iv))
 | .il k b,x=>.v (.int k (bif c then b else x.iv))
 | .v (.bool b),x=>.v (.bool (bif c then b else x.bv))
 | .bl b,x=>.v (.bool (bif c then b else x.bv))
 | .rs sz n f,x=>.rs sz (bif c then n else x.rn) (fun i=>jnL c (f i) (x.rf i))
 | .agg l,x=>.agg (jnL c l x.al)
 | y,x=>bif c then y else x
def jnL(c:Bool):List SV→List SV→List SV
 | [],_=>[]
 | y::r,x=>jn c y (hdS x)::jnL c r (tlS x)
end
mutual
def alike:SV→SV→Prop
 | .v (.int k _),x=>match x.int? with|some (k',_)=>k'=k|none=>False
 | .il k _,x=>match x.int? with|some (k',_)=>k'=k|none=>False
 | .v (.bool _),x=>match x.bool? with|some _=>True|none=>False
 | .bl _,x=>match x.bool? with|some _=>True|none=>False
 | .rs sz _ f,x=>match x with
  | .rs sz' n' f'=>sz'=sz∧∀i,i<n'→dL (f i) (f' i)
  | .e=>True
  | .v (.slice none 0 0)=>True
  | _=>False
 | .agg l,x=>match x with|.agg m=>dL l m|_=>False
 | _,_=>True
def dL:List SV→List SV→Prop
 | [],x=>match x with|[]=>True|_::_=>False
 | y::r,x=>match x with|[]=>False|x::s=>alike y x∧dL r s
end
mutual
theorem jn_true{ρ:Names} : ∀(y x:SV)(v:Value),den ρ y v→den ρ (jn true y x) v
 | .v z,x,v,h=>by cases z<;>exact h
 | .il k b,x,v,h=>h
 | .bl b,x,v,h=>h
 | .rs sz n f,x,v,⟨a,cap,e1,e2,e3⟩=>⟨a,cap,e1,e2,fun i hi=>let ⟨b,o,u,k1,k2,k3⟩:=e3 i hi;⟨b,o,u,k1,ew (f i) _ u k2,k3⟩⟩
 | .p _ _,x,v,h=>h
 | .s _ _ _ _ _,x,v,h=>h
 | .f _ _ _,x,v,h=>h
 | .agg l,x,v,⟨u,e1,e2⟩=>⟨u,ew l _ u e1,e2⟩
 | .tup _,x,v,h=>h
 | .e,x,v,h=>h
 | .rp _ _,x,v,h=>h
 | .g _ _ _ _ _,x,v,h=>h
 | .gp _ _ _ _ _,x,v,h=>h
 | .kd _ _ _ _ _,x,v,h=>h
 | .kq _ _ _ _ _,x,v,h=>h
 | .m _,x,v,h=>h
theorem ew{ρ:Names} : ∀(y x:List SV)(v:List Value),aj ρ y v→aj ρ (jnL true y x) v
 | [],x,v,h=>h
 | y::r,x,v,⟨a,b,e1,e2,e3⟩=>⟨a,b,e1,jn_true y _ a e2,ew r _ b e3⟩
end
mutual
theorem jn_false{ρ:Names} : ∀(y x:SV)(v:Value),alike y x→den ρ x v→den ρ (jn false y x) v
 | .v z,x,v,ha,h=>by
  cases z
  case int k b=>
   simp only[alike] at ha
   split at ha
   ·rename_i k' n hn
    subst ha
    have:x.iv=n:=by unfold SV.int? at hn;split at hn<;>first|(obtain⟨rfl,rfl⟩:=Prod.mk.inj (Oi hn);rfl)|cases hn
    rw[SV.int?_den hn h]
    show _=Value.int _ x.iv
    rw[this]
   ·exact ha.elim
  case bool b=>
   simp only[alike] at ha
   split at ha
   ·rename_i n hn
    have:x.bv=n:=by unfold SV.bool? at hn;split at hn<;>first|(obtain rfl:=Oi hn;rfl)|cases hn
    rw[SV.bool?_den hn h]
    show _=Value.bool x.bv
    rw[this]
   ·exact ha.elim
  all_goals exact h
 | .il k b,x,v,ha,h=>by
  simp only[alike] at ha
  split at ha
  ·rename_i k' n hn
   subst ha
   have:x.iv=n:=by unfold SV.int? at hn;split at hn<;>first|(obtain⟨rfl,rfl⟩:=Prod.mk.inj (Oi hn);rfl)|cases hn
   rw[SV.int?_den hn h]
   show _=Value.int _ x.iv
   rw[this]
  ·exact ha.elim
 | .bl b,x,v,ha,h=>by
  simp only[alike] at ha
  split at ha
  ·rename_i n hn
   have:x.bv=n:=by unfold SV.bool? at hn;split at hn<;>first|(obtain rfl:=Oi hn;rfl)|cases hn
   rw[SV.bool?_den hn h]
   show _=Value.bool x.bv
   rw[this]
  ·exact ha.elim
 | .rs sz n f,x,v,ha,h=>by
  simp only[alike] at ha
  split at ha
  ·rename_i sz' n' f'
   obtain⟨rfl,ha⟩:=ha
   obtain⟨a,cap,e1,e2,e3⟩:=h
   exact⟨a,cap,e1,e2,fun i hi=>let ⟨b,o,u,k1,k2,k3⟩:=e3 i hi;⟨b,o,u,k1,cg (f i) _ u (ha i hi) k2,k3⟩⟩
  ·obtain⟨a,rfl⟩:=h
   exact⟨a,0,rfl,Nat.le_refl _,fun i hi=>absurd hi (Nat.not_lt_zero i)⟩
  ·obtain rfl:v=_:=h
   exact⟨none,0,rfl,Nat.le_refl _,fun i hi=>absurd hi (Nat.not_lt_zero i)⟩
  ·exact ha.elim
 | .p _ _,x,v,_,h=>h
 | .s _ _ _ _ _,x,v,_,h=>h
 | .f _ _ _,x,v,_,h=>h
 | .agg l,x,v,ha,h=>by
  simp only[alike] at ha
  split at ha
  ·obtain⟨u,e1,e2⟩:=h
   exact⟨u,cg l _ u ha e1,e2⟩
  ·exact ha.elim
 | .tup _,x,v,_,h=>h
 | .e,x,v,_,h=>h
 | .rp _ _,x,v,_,h=>h
 | .g _ _ _ _ _,x,v,_,h=>h
 | .gp _ _ _ _ _,x,v,_,h=>h
 | .kd _ _ _ _ _,x,v,_,h=>h
 | .kq _ _ _ _ _,x,v,_,h=>h
 | .m _,x,v,_,h=>h
theorem cg{ρ:Names} : ∀(y x:List SV)(v:List Value),dL y x→aj ρ x v→aj ρ (jnL false y x) v
 | [],x,v,ha,h=>by
  cases x with
  | nil=>exact h
  | cons _ _=>exact ha.elim
 | y::r,x,v,ha,h=>by
  cases x with
  | nil=>exact ha.elim
  | cons x s=>
   obtain⟨a,b,e1,e2,e3⟩:=h
   exact⟨a,b,e1,jn_false y x a ha.1 e2,cg r s b ha.2 e3⟩
end
def aK:List Prop→Prop
 | []=>True
 | [p]=>p
 | p::r=>p∧aK r
theorem cT{p:Prop}{r:List Prop}(h:aK (p::r)):p∧aK r:=by
 cases r with
 | nil=>exact⟨h,trivial⟩
 | cons q r=>exact h
theorem bV:∀{l m:List Prop},aK (l++m)→aK l∧aK m
 | [],m,h=>⟨trivial,h⟩
 | p::r,m,h=>by
  obtain⟨h1,h2⟩:=cT (r:=r++m) h
  obtain⟨h3,h4⟩:=bV h2
  refine⟨?_,h4⟩
  cases r with
  | nil=>exact h1
  | cons q r=>exact⟨h1,h3⟩
def aH:Option (List Prop)→Prop
 | some l=>aK l
 | none=>False
def isInt(k:IntKind)(x:SV):Option (List Prop):=match x.int? with|none=>none|some (k',_)=>match iA k' k with|true=>some []|false=>none
def isBool(x:SV):Option (List Prop):=match x.bool? with|some _=>some []|none=>none
mutual
def alikeC:SV→SV→Option (List Prop)
 | .v (.int k _),x=>isInt k x
 | .il k _,x=>isInt k x
 | .v (.bool _),x=>isBool x
 | .bl _,x=>isBool x
 | .rs sz _ f,x=>match x with
  | .rs sz' n' f'=>match Nat.beq sz' sz with|true=>some [∀i,i<n'→aH (eF (f i) (f' i))]|false=>none
  | .e=>some []
  | .v (.slice none 0 0)=>some []
  | _=>none
 | .agg l,x=>match x with|.agg m=>eF l m|_=>none
 | _,_=>some []
def eF:List SV→List SV→Option (List Prop)
 | [],x=>match x with|[]=>some []|_::_=>none
 | y::r,x=>match x with
  | []=>none
  | x::s=>match alikeC y x,eF r s with|some a,some b=>some (a++b)|_,_=>none
end
theorem isInt_ok{k:IntKind}{x:SV}{l:List Prop}(h:isInt k x=some l):match x.int? with|some (k',_)=>k'=k|none=>False:=by
 unfold isInt at h
 cases hx:x.int? with
 | none=>rw[hx] at h;cases h
 | some p=>
  rw[hx] at h
  simp only at h ⊢
  split at h
  ·rename_i hk;exact dM hk
  ·cases h
theorem isBool_ok{x:SV}{l:List Prop}(h:isBool x=some l):match x.bool? with|some _=>True|none=>False:=by
 unfold isBool at h
 cases hx:x.bool? with
 | none=>rw[hx] at h;cases h
 | some p=>trivial
mutual
theorem alikeC_ok:∀(y x:SV)(l:List Prop),alikeC y x=some l→aK l→alike y x
 | .v z,x,l,h,hc=>by
  cases z
  case int k b=>exact isInt_ok h
  case bool b=>exact isBool_ok h
  all_goals exact trivial
 | .il k b,x,l,h,hc=>isInt_ok h
 | .bl b,x,l,h,hc=>isBool_ok h
 | .rs sz n f,x,l,h,hc=>by
  simp only[alikeC] at h
  split at h
  ·rename_i sz' n' f'
   split at h
   ·rename_i hb
    have hb:=Nb hb
    obtain rfl:=Oi h
    refine⟨hb,fun i hi=>?_⟩
    have:=hc i hi
    cases hq:eF (f i) (f' i) with
    | none=>rw[hq] at this;exact this.elim
    | some q=>rw[hq] at this;exact eZ _ _ q hq this
   ·cases h
  ·trivial
  ·trivial
  ·cases h
 | .agg m,x,l,h,hc=>by
  simp only[alikeC] at h
  split at h
  ·exact eZ _ _ l h hc
  ·cases h
 | .p _ _,x,_,_,h=>trivial
 | .s _ _ _ _ _,x,_,_,h=>trivial
 | .f _ _ _,x,_,_,h=>trivial
 | .tup _,x,_,_,h=>trivial
 | .e,x,_,_,h=>trivial
 | .rp _ _,x,_,_,h=>trivial
 | .g _ _ _ _ _,x,_,_,h=>trivial
 | .gp _ _ _ _ _,x,_,_,h=>trivial
 | .kd _ _ _ _ _,x,_,_,h=>trivial
 | .kq _ _ _ _ _,x,_,_,h=>trivial
 | .m _,x,_,_,h=>trivial
theorem eZ:∀(y x:List SV)(l:List Prop),eF y x=some l→aK l→dL y x
 | [],x,l,h,hc=>by
  cases x with
  | nil=>trivial
  | cons _ _=>cases h
 | y::r,x,l,h,hc=>by
  cases x with
  | nil=>cases h
  | cons x s=>
   simp only[eF] at h
   split at h
   ·rename_i a b h1 h2
    obtain rfl:=Oi h
    obtain⟨c1,c2⟩:=bV hc
    exact⟨alikeC_ok y x a h1 c1,eZ r s b h2 c2⟩
   ·cases h
end
end Go.Proofs.YtgigkennhdolpaaGreatDoor
