/- A symbolic executor with lists, 2: what each operation does. -/
import Derived.Test.YtcojfohjdibjjaaGreatDoorG0
import Derived.OwnWalk
import Derived.Laws.CopyRow
namespace Go.Proofs.YtcojfohjdibjjaaGreatDoor
open Go.RowKit

section
variable {P : Program} {a : Act} {w : World} {K : Act → World → Prop} {Q : Exit → Act → World → Prop} {dst : Option Tmp} {ty : TypeId} {pos : String} {after : Array Edge} {guard : Option (Nat × Bool)}

theorem wp_val {o : Oper} {v : Value} (e : (execOp a.eval o).run P w = .ok (.value v) w) (h : K (a.put o.dst v) w) : Oper.wp P o a w K Q := by
  unfold Oper.wp; rw [e]; exact h
theorem wp_val' {o : Oper} {v : Value} {w' : World} (e : (execOp a.eval o).run P w = .ok (.value v) w') (h : K (a.put o.dst v) w') : Oper.wp P o a w K Q := by
  unfold Oper.wp; rw [e]; exact h

theorem ex_move {x : Operand} : (execOp a.eval ⟨dst, .move x, ty, pos, after, guard⟩).run P w = .ok (.value (a.eval x)) w := rfl
theorem ex_assign {x : Operand} : (execOp a.eval ⟨dst, .assign x, ty, pos, after, guard⟩).run P w = .ok (.value (a.eval x)) w := rfl
theorem ex_pick {c x y : Operand} {b : Bool} (hc : a.eval c = .bool b) :
    (execOp a.eval ⟨dst, .pick c x y, ty, pos, after, guard⟩).run P w = .ok (.value (if b then a.eval x else a.eval y)) w := by
  simp only [execOp, hc, asBool, Sem.run_bind, Sem.run_pure, Result.andThen_ok]
theorem ex_alloc {t : TypeId} {i : TypeInfo} {z : Value} (hi : P.info? t = some i) (hz : i.zero = some z) :
    (execOp a.eval ⟨dst, .alloc t, ty, pos, after, guard⟩).run P w = .ok (.value (.pointer (some ⟨w.heap.size, 0, none⟩))) (w.alloc (.cells z.cells t)) := by
  simp only [execOp, Instr.alloc, zeroValue, typeInfo, Sem.run_bind, run_program, Result.andThen_ok, hi, Sem.run_pure, hz, newVar, newRow, run_newObj]
  rfl
theorem ex_box {t : TypeId} {x : Operand} :
    (execOp a.eval ⟨dst, .box t x, ty, pos, after, guard⟩).run P w = .ok (.value (.pointer (some ⟨w.heap.size, 0, none⟩))) (w.alloc (.cells (a.eval x).cells t)) := by
  simp only [execOp, Instr.box, Sem.run_bind, Result.andThen_ok, Sem.run_pure, newVar, newRow, run_newObj]
  rfl
theorem ex_load1 {t : TypeId} {x : Operand} {d : TypeDesc} {p : Addr} {v : Value} (hp : a.eval x = .pointer (some p)) (hd : P.underlying t = some d) (h1 : ∀ fs, d ≠ .struct fs) (h2 : ∀ n e, d ≠ .array n e) (hv : w.cell? p = some v) :
    (execOp a.eval ⟨dst, .load t x, ty, pos, after, guard⟩).run P w = .ok (.value v) w := by
  simp only [execOp, hp, Instr.loadAt, Instr.sureAddr, loadVar, isAgg, underlying, Sem.run_bind, run_program, Result.andThen_ok, hd, Sem.run_pure]
  cases d <;> first | exact absurd rfl (h1 _) | exact absurd rfl (h2 _ _) | simp only [Sem.run_pure, Result.andThen_ok, Bool.false_eq_true, if_false, run_load, hv]
theorem isAgg_agg {t : TypeId} {d : TypeDesc} (hd : P.underlying t = some d) (h1 : (∃ fs, d = .struct fs) ∨ ∃ n e, d = .array n e) : (isAgg t).run P w = .ok true w := by
  simp only [isAgg, underlying, Sem.run_bind, run_program, Result.andThen_ok, hd, Sem.run_pure]
  rcases h1 with ⟨fs, rfl⟩ | ⟨n, e, rfl⟩ <;> rfl
theorem isAgg_not {t : TypeId} {d : TypeDesc} (hd : P.underlying t = some d) (h1 : ∀ fs, d ≠ .struct fs) (h2 : ∀ n e, d ≠ .array n e) : (isAgg t).run P w = .ok false w := by
  cases d <;> first
    | exact absurd rfl (h1 _)
    | exact absurd rfl (h2 _ _)
    | simp only [isAgg, underlying, Sem.run_bind, run_program, Result.andThen_ok, hd, Sem.run_pure]
theorem ex_loadN {t : TypeId} {x : Operand} {d : TypeDesc} {i : TypeInfo} {p : Addr} {cs : List Value} (hp : a.eval x = .pointer (some p)) (hi : P.info? t = some i) (hd : P.underlying t = some d) (h1 : (∃ fs, d = .struct fs) ∨ ∃ n e, d = .array n e)
    (hs : i.size = cs.length) (hv : ∀ j v, cs[j]? = some v → w.cell? (p.add j) = some v) :
    (execOp a.eval ⟨dst, .load t x, ty, pos, after, guard⟩).run P w = .ok (.value (.agg cs.toArray)) w := by
  simp only [execOp, hp, Instr.loadAt, Instr.sureAddr, loadVar, Sem.run_bind, Result.andThen_ok, isAgg_agg hd h1, Sem.run_pure, if_true, sizeOf, typeInfo, run_program, hi, hs, run_loadCells_list w p cs hv]
theorem ex_field {s : TypeId} {x : Operand} {k : Nat} {fs : Array Field} {f : Field} {i : TypeInfo} {p : Addr} (hp : a.eval x = .pointer (some p)) (hd : P.underlying s = some (.struct fs)) (hf : fs[k]? = some f) (hi : P.info? f.type = some i) (hs : i.size ≠ 0) :
    (execOp a.eval ⟨dst, .fieldAddr s x k, ty, pos, after, guard⟩).run P w = .ok (.value (.pointer (some (p.add f.offset)))) w := by
  simp only [execOp, hp, Instr.fieldAt, Instr.sureAddr, underlying, Sem.run_bind, run_program, Result.andThen_ok, hd, Sem.run_pure, hf, fieldPlace, sizeOf, typeInfo, hi, hs, if_false]
theorem run_part_agg {e : TypeId} {i : TypeInfo} {d : TypeDesc} {xs : Array Value} {off : Nat} (hi : P.info? e = some i) (hd : P.underlying e = some d) (h1 : (∃ fs, d = .struct fs) ∨ ∃ n e, d = .array n e) :
    (part e xs off).run P w = .ok (.agg (xs.extract off (off + i.size))) w := by
  simp only [part, Sem.run_bind, isAgg_agg hd h1, Result.andThen_ok, if_true, sizeOf, typeInfo, run_program, hi, Sem.run_pure]
theorem run_part_one {e : TypeId} {d : TypeDesc} {xs : Array Value} {off : Nat} {v : Value} (hd : P.underlying e = some d) (h1 : ∀ fs, d ≠ .struct fs) (h2 : ∀ n e, d ≠ .array n e) (hv : xs[off]? = some v) :
    (part e xs off).run P w = .ok v w := by
  simp only [part, Sem.run_bind, isAgg_not hd h1 h2, Result.andThen_ok, Bool.false_eq_true, if_false, hv, Sem.run_pure]
theorem ex_fieldV {s : TypeId} {x : Operand} {k : Nat} {fs : Array Field} {f : Field} {cs : Array Value} {v : Value} (hp : a.eval x = .agg cs) (hd : P.underlying s = some (.struct fs)) (hf : fs[k]? = some f) (hv : (part f.type cs f.offset).run P w = .ok v w) :
    (execOp a.eval ⟨dst, .field s x k, ty, pos, after, guard⟩).run P w = .ok (.value v) w := by
  simp only [execOp, hp, Instr.field, asAgg, underlying, Sem.run_bind, run_program, Result.andThen_ok, hd, Sem.run_pure, hf, hv]
theorem ex_bin {op : BinOp} {t yt : TypeId} {x y : Operand} {v : Value} (hg : (eqGuard op t x y (a.eval x) (a.eval y)).run P w = .ok () w) (hv : (binOp op t (a.eval x) (a.eval y)).run P w = .ok v w) :
    (execOp a.eval ⟨dst, .binOp op t x y yt, ty, pos, after, guard⟩).run P w = .ok (.value v) w := by
  simp only [execOp, Sem.run_bind, hg, hv, Result.andThen_ok, Sem.run_pure]
theorem ex_un {op : UnOp} {t : TypeId} {x : Operand} {v : Value} (hv : (Op.unary op (a.eval x)).run P w = .ok v w) :
    (execOp a.eval ⟨dst, .unOp op t x, ty, pos, after, guard⟩).run P w = .ok (.value v) w := by
  simp only [execOp, Sem.run_bind, hv, Result.andThen_ok, Sem.run_pure]
theorem ex_extract {x : Operand} {k : Nat} {vs : Array Value} {v : Value} (hx : a.eval x = .tuple vs) (hv : vs[k]? = some v) :
    (execOp a.eval ⟨dst, .extract x k, ty, pos, after, guard⟩).run P w = .ok (.value v) w := by
  simp only [execOp, hx, Instr.extract, hv, Sem.run_bind, Result.andThen_ok, Sem.run_pure]
theorem ex_nilCheck {x : Operand} {p : Addr} (hx : a.eval x = .pointer (some p)) :
    (execOp a.eval ⟨dst, .nilCheck x, ty, pos, after, guard⟩).run P w = .ok (.value (.pointer (some p))) w := by
  simp only [execOp, hx, Sem.run_pure]
theorem ex_makeFunc {fn : Fn} {first captured : Array Operand} :
    (execOp a.eval ⟨dst, .makeFunc fn first captured, ty, pos, after, guard⟩).run P w = .ok (.value (.func fn (first.map a.eval) (captured.map a.eval))) w := by
  simp only [execOp, Instr.makeFunc, Sem.run_bind, Result.andThen_ok, Sem.run_pure]
theorem guard_int {op : BinOp} {t : TypeId} {x y : Operand} {k k' : IntKind} {n m : Int} : (eqGuard op t x y (.int k n) (.int k' m)).run P w = .ok () w := by
  simp only [eqGuard]; split <;> rfl
theorem guard_bool {op : BinOp} {t : TypeId} {x y : Operand} {n m : Bool} : (eqGuard op t x y (.bool n) (.bool m)).run P w = .ok () w := by
  simp only [eqGuard]; split <;> rfl
end
/-- What is read of a slice, in every world with this heap. -/
def Firsts (P : Program) (w : World) (size m : Nat) (x : Value) (news : List Value) : Prop := news.length = m * size ∧ ∀ w' : World, (∀ b : Nat, b < w.heap.size → w'.heap[b]? = w.heap[b]?) → (Builtin.firstCells size m x).run P w' = .ok news.toArray w'
theorem firsts_some {P : Program} {w : World} {size m : Nat} {a : Addr} {len cap : Nat} {news : List Value} (hl : news.length = m * size) (h : ∀ j u, news[j]? = some u → w.cell? (a.add j) = some u) : Firsts P w size m (.slice (some a) len cap) news :=
  ⟨hl, fun w' hw => run_firstCells_some (P := P) w' size m a len cap news hl fun j u hj => by
    have h1 := h j u hj
    have h2 := hw _ (World.block_lt_of_cell? w _ h1)
    unfold World.cell? at h1 ⊢
    rw [h2]; exact h1⟩
theorem firsts_none {P : Program} {w : World} {size len cap : Nat} : Firsts P w size 0 (.slice none len cap) [] := ⟨by simp, fun w' _ => run_firstCells_none (P := P) w' size 0 len cap⟩

/-- append: there is room. -/
theorem run_app_room {P : Program} {w : World} {t ty e : TypeId} {i : TypeInfo} (ht : P.underlying t = some (.slice e)) (hi : P.info? e = some i) {g sLen sCap : Nat} {cur : Array Value} (hg : w.heap[g]? = some (.cells cur e (0, 0)))
    {a : Option Addr} {m c : Nat} {news : List Value} (hn : Firsts P w i.size m (.slice a m c) news) (h1 : ∀ u ∈ news, u.oneCell' = true) (hroom : sLen + m ≤ sCap) (hfit : sLen * i.size + news.length ≤ cur.size) :
    (Builtin.append_ #[t, t] ty #[.slice (some ⟨g, 0, none⟩) sLen sCap, .slice a m c]).run P w =
      .ok (.slice (some ⟨g, 0, none⟩) (sLen + m) sCap) (w.setRow g (cur.toList.take (sLen * i.size) ++ news ++ cur.toList.drop (sLen * i.size + news.length)).toArray) := by
  have hf := hn.2 w fun _ _ => rfl
  have hadd : (⟨g, 0, none⟩ : Addr).add (sLen * i.size) = ⟨g, sLen * i.size, none⟩ := by unfold Addr.add; split <;> simp_all
  have hst := run_storeCells_at (P := P) g (sLen * i.size) e news 0 cur w hg (by simpa using hfit) h1
  simp only [Nat.add_zero] at hst
  simp [Builtin.append_, run_underlying ht, sizeOf, typeInfo, hi, Builtin.lenOf, hroom, hf, hadd, hst]
/-- append: nothing onto a slice without room. -/
theorem run_app_nil {P : Program} {w : World} {t ty e : TypeId} {i : TypeInfo} (ht : P.underlying t = some (.slice e)) (hi : P.info? e = some i) {b a : Option Addr} {sCap c : Nat} {n : Nat}
    (hn : Firsts P w i.size 0 (.slice a 0 c) []) (hroom : n ≤ sCap) :
    (Builtin.append_ #[t, t] ty #[.slice b n sCap, .slice a 0 c]).run P w = .ok (.slice b n sCap) w := by
  have hf := hn.2 w fun _ _ => rfl
  cases b with
  | none => simp [Builtin.append_, run_underlying ht, sizeOf, typeInfo, hi, Builtin.lenOf, hroom, hf]
  | some b => simp [Builtin.append_, run_underlying ht, sizeOf, typeInfo, hi, Builtin.lenOf, hroom, hf, storeCells]
/-- append: there is no room. -/
theorem run_app_grow {P : Program} {w : World} {t ty e : TypeId} {i : TypeInfo} {z : Value} (ht : P.underlying t = some (.slice e)) (hi : P.info? e = some i) (hz : i.zero = some z)
    {b : Option Addr} {sLen sCap : Nat} {olds : List Value} (ho : Firsts P w i.size sLen (.slice b sLen sCap) olds)
    {a : Option Addr} {n c : Nat} {news : List Value} (hn : Firsts P w i.size n (.slice a n c) news)
    (hg : sCap < sLen + n) (h63 : sLen + n ≤ maxLen) (hby : (sLen + n) * i.bytes ≤ 140737488355328) :
    (Builtin.append_ #[t, t] ty #[.slice b sLen sCap, .slice a n c]).run P w =
      .ok (.slice (some ⟨w.heap.size, 0, none⟩) (sLen + n) (grownCap w (sLen + n) sCap e))
        (w.drew.alloc (.cells (olds.toArray ++ news.toArray ++ Builtin.zeroCells z.cells (grownCap w (sLen + n) sCap e - (sLen + n))) e)) := by
  have hfit := growslice_fits hg hby
  have hm : sLen + n ≤ 9223372036854775807 := by simp only [maxLen] at h63; omega
  have hno : ¬ (sLen + n ≤ sCap) := by omega
  have h63' : ¬ (9223372036854775807 < ((sLen : Int) + (n : Int))) := by omega
  have h48' : ¬ (281474976710656 < Builtin.nextslicecap (sLen + n) sCap * i.bytes) := by omega
  have hf := hn.2 w.drew fun _ _ => rfl
  have hfo := ho.2 w.drew fun _ _ => rfl
  simp [Builtin.append_, run_underlying ht, sizeOf, typeInfo, zeroValue, hi, hz, Builtin.lenOf, hno, h63', h48', Question.forced, hf, hfo, newRow, grownCap]
  congr 2
  apply Array.ext'
  simp [List.append_assoc]

section
variable {P : Program} {a : Act} {w : World} {dst : Option Tmp} {ty : TypeId} {pos : String} {after : Array Edge} {guard : Option (Nat × Bool)}
theorem ex_append {c : Call} {x y : Operand} {t : TypeId} {v : Value} {w' : World} {u u' : Value} (hc : c.callee = .builtin .append) (ha : c.args = #[x, y]) (ht : c.argTypes = #[t, t]) (hx : a.eval x = u) (hy : a.eval y = u')
    (h : (Builtin.append_ #[t, t] ty #[u, u']).run P w = .ok v w') : (execOp a.eval ⟨dst, .call c, ty, pos, after, guard⟩).run P w = .ok (.value v) w' := by
  simp only [execOp, resolve, hc, ha, ht, invoke, builtin, Sem.run_bind, Sem.run_pure, Result.andThen_ok, List.map_toArray, List.map_cons, List.map_nil, hx, hy, h]
theorem ex_index {t e : TypeId} {x i : Operand} {k : Nat} {len : Nat} {cs : Array Value} {v : Value} {inf : TypeInfo} {kk : IntKind} (hx : a.eval x = .agg cs) (hi : a.eval i = .int kk (k : Int)) (hk : k < len) (hd : P.underlying t = some (.array len e)) (hinf : P.info? e = some inf)
    (hv : (part e cs (k * inf.size)).run P w = .ok v w) : (execOp a.eval ⟨dst, .index t x i, ty, pos, after, guard⟩).run P w = .ok (.value v) w := by
  have hc : (0 : Int) ≤ (k : Int) ∧ (k : Int) < (len : Int) := ⟨by omega, by omega⟩
  simp only [execOp, hx, hi, Instr.index, asIntOf, underlying, sizeOf, typeInfo, Sem.run_bind, Sem.run_pure, run_program, Result.andThen_ok, hd, hinf, if_pos hc, Int.toNat_natCast, hv]
theorem ex_indexSl {t e : TypeId} {x i : Operand} {k : Int} {len cap : Nat} {b : Addr} {inf : TypeInfo} {kk : IntKind} (hx : a.eval x = .slice (some b) len cap) (hi : a.eval i = .int kk k) (hk : 0 ≤ k ∧ k < len) (hd : P.underlying t = some (.slice e)) (hinf : P.info? e = some inf) :
    (execOp a.eval ⟨dst, .indexAddr t x i, ty, pos, after, guard⟩).run P w = .ok (.value (.pointer (some (b.add (k.toNat * inf.size))))) w := by
  simp only [execOp, hx, hi, Instr.indexAt, asIntOf, underlying, sizeOf, typeInfo, Sem.run_bind, Sem.run_pure, run_program, Result.andThen_ok, hd, hinf, if_pos hk]
theorem ex_indexArr {t e : TypeId} {x i : Operand} {k : Int} {len : Nat} {b : Addr} {inf : TypeInfo} {kk : IntKind} (hx : a.eval x = .pointer (some b)) (hi : a.eval i = .int kk k) (hk : 0 ≤ k ∧ k < len) (hd : P.underlying t = some (.array len e)) (hinf : P.info? e = some inf) :
    (execOp a.eval ⟨dst, .indexAddr t x i, ty, pos, after, guard⟩).run P w = .ok (.value (.pointer (some (b.add (k.toNat * inf.size))))) w := by
  simp only [execOp, hx, hi, Instr.indexAt, Instr.sureAddr, asIntOf, underlying, sizeOf, typeInfo, Sem.run_bind, Sem.run_pure, run_program, Result.andThen_ok, hd, hinf, if_pos hk]
/-- The bounds of a slice expression. -/
theorem run_sliceBounds {low high max : Option Value} {isS : Bool} {len cap : Nat} {l h m : Nat} (hm : (max = none ∧ m = cap) ∨ ∃ k i, max = some (.int k i) ∧ 0 ≤ i ∧ i ≤ cap ∧ m = i.toNat)
    (hh : (high = none ∧ max = none ∧ h = len) ∨ ∃ k i, high = some (.int k i) ∧ 0 ≤ i ∧ i ≤ m ∧ h = i.toNat) (hl : (low = none ∧ l = 0) ∨ ∃ k i, low = some (.int k i) ∧ 0 ≤ i ∧ i ≤ h ∧ l = i.toNat) :
    (Instr.sliceBounds isS len cap low high max).run P w = .ok (l, h, m) w := by
  rcases hm with ⟨rfl, rfl⟩ | ⟨k, i, rfl, h1, h2, rfl⟩ <;> rcases hh with ⟨rfl, h0, rfl⟩ | ⟨k', i', rfl, h3, h4, rfl⟩ <;> rcases hl with ⟨rfl, rfl⟩ | ⟨k2, i2, rfl, h5, h6, rfl⟩
  all_goals first
    | (simp only [Instr.sliceBounds, Instr.sliceBound, asIntOf, Sem.run_bind, Sem.run_pure, Result.andThen_ok, if_pos (⟨h1, h2⟩ : 0 ≤ i ∧ i ≤ (_ : Int)), if_pos (⟨h3, h4⟩ : 0 ≤ i' ∧ i' ≤ (_ : Int)), if_pos (⟨h5, h6⟩ : 0 ≤ i2 ∧ i2 ≤ (_ : Int))]; done)
    | (simp only [Instr.sliceBounds, Instr.sliceBound, asIntOf, Sem.run_bind, Sem.run_pure, Result.andThen_ok, if_pos (⟨h3, h4⟩ : 0 ≤ i' ∧ i' ≤ (_ : Int)), if_pos (⟨h5, h6⟩ : 0 ≤ i2 ∧ i2 ≤ (_ : Int))]; done)
    | (simp only [Instr.sliceBounds, Instr.sliceBound, asIntOf, Sem.run_bind, Sem.run_pure, Result.andThen_ok, if_pos (⟨h1, h2⟩ : 0 ≤ i ∧ i ≤ (_ : Int)), if_pos (⟨h3, h4⟩ : 0 ≤ i' ∧ i' ≤ (_ : Int))]; done)
    | (simp only [Instr.sliceBounds, Instr.sliceBound, asIntOf, Sem.run_bind, Sem.run_pure, Result.andThen_ok, if_pos (⟨h3, h4⟩ : 0 ≤ i' ∧ i' ≤ (_ : Int))]; done)
    | (simp only [Instr.sliceBounds, Instr.sliceBound, asIntOf, Sem.run_bind, Sem.run_pure, Result.andThen_ok, if_pos (⟨h5, h6⟩ : 0 ≤ i2 ∧ i2 ≤ (_ : Int))]; done)
    | (simp only [Instr.sliceBounds, Instr.sliceBound, asIntOf, Sem.run_bind, Sem.run_pure, Result.andThen_ok]; done)
    | cases h0
theorem ex_slice {t e : TypeId} {x : Operand} {low high max : Option Operand} {b : Option Addr} {len cap l h m : Nat} {inf : TypeInfo} (hx : a.eval x = .slice b len cap) (hd : P.underlying t = some (.slice e)) (hinf : P.info? e = some inf)
    (hb : (Instr.sliceBounds true len cap (low.map a.eval) (high.map a.eval) (max.map a.eval)).run P w = .ok (l, h, m) w) :
    (execOp a.eval ⟨dst, .slice t x low high max, ty, pos, after, guard⟩).run P w = .ok (.value (.slice (if m = l then b else b.map (·.add (l * inf.size))) (h - l) (m - l))) w := by
  simp only [execOp, hx, Instr.sliceAt, Instr.slice, underlying, sizeOf, typeInfo, Sem.run_bind, Sem.run_pure, run_program, Result.andThen_ok, hd, hinf, hb]
theorem ex_sliceArr {t e : TypeId} {x : Operand} {low high max : Option Operand} {b : Addr} {n l h m : Nat} {inf : TypeInfo} (hx : a.eval x = .pointer (some b)) (hd : P.underlying t = some (.array n e)) (hinf : P.info? e = some inf)
    (hb : (Instr.sliceBounds false n n (low.map a.eval) (high.map a.eval) (max.map a.eval)).run P w = .ok (l, h, m) w) :
    (execOp a.eval ⟨dst, .slice t x low high max, ty, pos, after, guard⟩).run P w = .ok (.value (.slice (some (if m = l then b else b.add (l * inf.size))) (h - l) (m - l))) w := by
  simp only [execOp, hx, Instr.sliceAt, Instr.sureAddr, underlying, sizeOf, typeInfo, Sem.run_bind, Sem.run_pure, run_program, Result.andThen_ok, hd, hinf, hb]
end
end Go.Proofs.YtcojfohjdibjjaaGreatDoor
