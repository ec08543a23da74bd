/- A symbolic executor, 2: what each operation does. -/
import Derived.Test.YtggcfjeehpcclaaDoorS0
namespace Go.Proofs.YtggcfjeehpcclaaDoor
open Go.RowKit

section
variable {P : Program} {a : Act} {w : World} {K : Act → World → Prop} {Q : Exit → Act → World → Prop} {dst : Option Tmp} {ty : TypeId} {pos : String} {after : Array Edge} {guard : Option (Nat × Bool)}

theorem wp_val {o : Oper} {v : Value} (e : (execOp a.eval o).run P w = .ok (.value v) w) (h : K (a.put o.dst v) w) : Oper.wp P o a w K Q := by
  unfold Oper.wp; rw [e]; exact h
theorem wp_val' {o : Oper} {v : Value} {w' : World} (e : (execOp a.eval o).run P w = .ok (.value v) w') (h : K (a.put o.dst v) w') : Oper.wp P o a w K Q := by
  unfold Oper.wp; rw [e]; exact h

theorem ex_move {x : Operand} : (execOp a.eval ⟨dst, .move x, ty, pos, after, guard⟩).run P w = .ok (.value (a.eval x)) w := rfl
theorem ex_assign {x : Operand} : (execOp a.eval ⟨dst, .assign x, ty, pos, after, guard⟩).run P w = .ok (.value (a.eval x)) w := rfl
theorem ex_pick {c x y : Operand} {b : Bool} (hc : a.eval c = .bool b) :
    (execOp a.eval ⟨dst, .pick c x y, ty, pos, after, guard⟩).run P w = .ok (.value (if b then a.eval x else a.eval y)) w := by
  simp only [execOp, hc, asBool, Sem.run_bind, Sem.run_pure, Result.andThen_ok]
theorem ex_alloc {t : TypeId} {i : TypeInfo} {z : Value} (hi : P.info? t = some i) (hz : i.zero = some z) :
    (execOp a.eval ⟨dst, .alloc t, ty, pos, after, guard⟩).run P w = .ok (.value (.pointer (some ⟨w.heap.size, 0, none⟩))) (w.alloc (.cells z.cells t)) := by
  simp only [execOp, Instr.alloc, zeroValue, typeInfo, Sem.run_bind, run_program, Result.andThen_ok, hi, Sem.run_pure, hz, newVar, newRow, run_newObj]
  rfl
theorem ex_box {t : TypeId} {x : Operand} :
    (execOp a.eval ⟨dst, .box t x, ty, pos, after, guard⟩).run P w = .ok (.value (.pointer (some ⟨w.heap.size, 0, none⟩))) (w.alloc (.cells (a.eval x).cells t)) := by
  simp only [execOp, Instr.box, Sem.run_bind, Result.andThen_ok, Sem.run_pure, newVar, newRow, run_newObj]
  rfl
theorem ex_load1 {t : TypeId} {x : Operand} {d : TypeDesc} {p : Addr} {v : Value} (hp : a.eval x = .pointer (some p)) (hd : P.underlying t = some d) (h1 : ∀ fs, d ≠ .struct fs) (h2 : ∀ n e, d ≠ .array n e) (hv : w.cell? p = some v) :
    (execOp a.eval ⟨dst, .load t x, ty, pos, after, guard⟩).run P w = .ok (.value v) w := by
  simp only [execOp, hp, Instr.loadAt, Instr.sureAddr, loadVar, isAgg, underlying, Sem.run_bind, run_program, Result.andThen_ok, hd, Sem.run_pure]
  cases d <;> first | exact absurd rfl (h1 _) | exact absurd rfl (h2 _ _) | simp only [Sem.run_pure, Result.andThen_ok, Bool.false_eq_true, if_false, run_load, hv]
theorem isAgg_agg {t : TypeId} {d : TypeDesc} (hd : P.underlying t = some d) (h1 : (∃ fs, d = .struct fs) ∨ ∃ n e, d = .array n e) : (isAgg t).run P w = .ok true w := by
  simp only [isAgg, underlying, Sem.run_bind, run_program, Result.andThen_ok, hd, Sem.run_pure]
  rcases h1 with ⟨fs, rfl⟩ | ⟨n, e, rfl⟩ <;> rfl
theorem isAgg_not {t : TypeId} {d : TypeDesc} (hd : P.underlying t = some d) (h1 : ∀ fs, d ≠ .struct fs) (h2 : ∀ n e, d ≠ .array n e) : (isAgg t).run P w = .ok false w := by
  cases d <;> first
    | exact absurd rfl (h1 _)
    | exact absurd rfl (h2 _ _)
    | simp only [isAgg, underlying, Sem.run_bind, run_program, Result.andThen_ok, hd, Sem.run_pure]
theorem ex_loadN {t : TypeId} {x : Operand} {d : TypeDesc} {i : TypeInfo} {p : Addr} {cs : List Value} (hp : a.eval x = .pointer (some p)) (hi : P.info? t = some i) (hd : P.underlying t = some d) (h1 : (∃ fs, d = .struct fs) ∨ ∃ n e, d = .array n e)
    (hs : i.size = cs.length) (hv : ∀ j v, cs[j]? = some v → w.cell? (p.add j) = some v) :
    (execOp a.eval ⟨dst, .load t x, ty, pos, after, guard⟩).run P w = .ok (.value (.agg cs.toArray)) w := by
  simp only [execOp, hp, Instr.loadAt, Instr.sureAddr, loadVar, Sem.run_bind, Result.andThen_ok, isAgg_agg hd h1, Sem.run_pure, if_true, sizeOf, typeInfo, run_program, hi, hs, run_loadCells_list w p cs hv]
theorem ex_field {s : TypeId} {x : Operand} {k : Nat} {fs : Array Field} {f : Field} {i : TypeInfo} {p : Addr} (hp : a.eval x = .pointer (some p)) (hd : P.underlying s = some (.struct fs)) (hf : fs[k]? = some f) (hi : P.info? f.type = some i) (hs : i.size ≠ 0) :
    (execOp a.eval ⟨dst, .fieldAddr s x k, ty, pos, after, guard⟩).run P w = .ok (.value (.pointer (some (p.add f.offset)))) w := by
  simp only [execOp, hp, Instr.fieldAt, Instr.sureAddr, underlying, Sem.run_bind, run_program, Result.andThen_ok, hd, Sem.run_pure, hf, fieldPlace, sizeOf, typeInfo, hi, hs, if_false]
theorem run_part_agg {e : TypeId} {i : TypeInfo} {d : TypeDesc} {xs : Array Value} {off : Nat} (hi : P.info? e = some i) (hd : P.underlying e = some d) (h1 : (∃ fs, d = .struct fs) ∨ ∃ n e, d = .array n e) :
    (part e xs off).run P w = .ok (.agg (xs.extract off (off + i.size))) w := by
  simp only [part, Sem.run_bind, isAgg_agg hd h1, Result.andThen_ok, if_true, sizeOf, typeInfo, run_program, hi, Sem.run_pure]
theorem run_part_one {e : TypeId} {d : TypeDesc} {xs : Array Value} {off : Nat} {v : Value} (hd : P.underlying e = some d) (h1 : ∀ fs, d ≠ .struct fs) (h2 : ∀ n e, d ≠ .array n e) (hv : xs[off]? = some v) :
    (part e xs off).run P w = .ok v w := by
  simp only [part, Sem.run_bind, isAgg_not hd h1 h2, Result.andThen_ok, Bool.false_eq_true, if_false, hv, Sem.run_pure]
theorem ex_fieldV {s : TypeId} {x : Operand} {k : Nat} {fs : Array Field} {f : Field} {cs : Array Value} {v : Value} (hp : a.eval x = .agg cs) (hd : P.underlying s = some (.struct fs)) (hf : fs[k]? = some f) (hv : (part f.type cs f.offset).run P w = .ok v w) :
    (execOp a.eval ⟨dst, .field s x k, ty, pos, after, guard⟩).run P w = .ok (.value v) w := by
  simp only [execOp, hp, Instr.field, asAgg, underlying, Sem.run_bind, run_program, Result.andThen_ok, hd, Sem.run_pure, hf, hv]
theorem ex_bin {op : BinOp} {t yt : TypeId} {x y : Operand} {v : Value} (hg : (eqGuard op t x y (a.eval x) (a.eval y)).run P w = .ok () w) (hv : (binOp op t (a.eval x) (a.eval y)).run P w = .ok v w) :
    (execOp a.eval ⟨dst, .binOp op t x y yt, ty, pos, after, guard⟩).run P w = .ok (.value v) w := by
  simp only [execOp, Sem.run_bind, hg, hv, Result.andThen_ok, Sem.run_pure]
theorem ex_un {op : UnOp} {t : TypeId} {x : Operand} {v : Value} (hv : (Op.unary op (a.eval x)).run P w = .ok v w) :
    (execOp a.eval ⟨dst, .unOp op t x, ty, pos, after, guard⟩).run P w = .ok (.value v) w := by
  simp only [execOp, Sem.run_bind, hv, Result.andThen_ok, Sem.run_pure]
theorem ex_extract {x : Operand} {k : Nat} {vs : Array Value} {v : Value} (hx : a.eval x = .tuple vs) (hv : vs[k]? = some v) :
    (execOp a.eval ⟨dst, .extract x k, ty, pos, after, guard⟩).run P w = .ok (.value v) w := by
  simp only [execOp, hx, Instr.extract, hv, Sem.run_bind, Result.andThen_ok, Sem.run_pure]
theorem ex_nilCheck {x : Operand} {p : Addr} (hx : a.eval x = .pointer (some p)) :
    (execOp a.eval ⟨dst, .nilCheck x, ty, pos, after, guard⟩).run P w = .ok (.value (.pointer (some p))) w := by
  simp only [execOp, hx, Sem.run_pure]
theorem ex_makeFunc {fn : Fn} {first captured : Array Operand} :
    (execOp a.eval ⟨dst, .makeFunc fn first captured, ty, pos, after, guard⟩).run P w = .ok (.value (.func fn (first.map a.eval) (captured.map a.eval))) w := by
  simp only [execOp, Instr.makeFunc, Sem.run_bind, Result.andThen_ok, Sem.run_pure]
theorem guard_int {op : BinOp} {t : TypeId} {x y : Operand} {k k' : IntKind} {n m : Int} : (eqGuard op t x y (.int k n) (.int k' m)).run P w = .ok () w := by
  simp only [eqGuard]; split <;> rfl
theorem guard_bool {op : BinOp} {t : TypeId} {x y : Operand} {n m : Bool} : (eqGuard op t x y (.bool n) (.bool m)).run P w = .ok () w := by
  simp only [eqGuard]; split <;> rfl
end
end Go.Proofs.YtggcfjeehpcclaaDoor
