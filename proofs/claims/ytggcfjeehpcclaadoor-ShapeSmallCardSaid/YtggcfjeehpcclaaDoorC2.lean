/- The contract of shape.Bounds. -/
import Derived.Test.YtggcfjeehpcclaaDoorC1
import Derived.StillTailTactics
import Derived.BigRegion
namespace Go.Proofs.YtggcfjeehpcclaaDoor
open Go.RowKit

set_option maxHeartbeats 1000000 in
theorem rBounds_no (i x y u v p q : Int) (r f : Bool) (w : World) (h1 : vldB i x y u v p q r f = false) :
    Calls Tryd.prog 32 #[.agg #[.int .i64 i, .int .i64 x, .int .i64 y, .int .i64 u, .int .i64 v, .int .i64 p, .int .i64 q, .bool r, .bool f]] w
      fun e w' => e = .returned (.tuple #[.agg #[.int .i64 0, .int .i64 0], .agg #[.int .i64 0, .int .i64 0]]) ∧ Gr w w' := by
  go_enter Tryd.func32, Tryd.ntmps32
  go_wp2_with fail
  have h1' : Blk (((w.alloc (.cells #[.int .i64 i, .int .i64 x, .int .i64 y, .int .i64 u, .int .i64 v, .int .i64 p, .int .i64 q, .bool r, .bool f] 25)).alloc (.cells #[.int .i64 0, .int .i64 0] 23)).alloc (.cells #[.int .i64 0, .int .i64 0] 23)) (w.heap.size + 1) #[.int .i64 0, .int .i64 0] 23 := (Blk.new (by simp)).alloc
  have h2' : Blk (((w.alloc (.cells #[.int .i64 i, .int .i64 x, .int .i64 y, .int .i64 u, .int .i64 v, .int .i64 p, .int .i64 q, .bool r, .bool f] 25)).alloc (.cells #[.int .i64 0, .int .i64 0] 23)).alloc (.cells #[.int .i64 0, .int .i64 0] 23)) (w.heap.size + 1 + 1) #[.int .i64 0, .int .i64 0] 23 := Blk.new (by simp)
  refine (rValid_any i x y u v p q r f _).mono ?_
  rintro e w1 ⟨rfl, hg⟩
  have g1 := ((((Gr.refl w).alloc _).alloc _).alloc _).trans hg
  obtain ⟨a1, f1⟩ := (hg.blk h1').facts
  obtain ⟨a2, f2⟩ := (hg.blk h2').facts
  have G1 := Lib.hid g1
  clear h1' h2' hg g1
  go_wp2
  refine bodyPost_ret (v := .tuple #[.agg #[.int .i64 0, .int .i64 0], .agg #[.int .i64 0, .int .i64 0]]) (by simp [results, Tryd.results32, go_sem, a1, a2]) rfl ⟨rfl, ?_⟩
  repeat (first | with_reducible exact G1.out | (with_reducible refine Gr.setAt ?_ ?_ _; focus omega))

theorem rfour_of {w : World} {n : Nat} {i x y u v p q : Int} {r f : Bool} {t : TypeId} (h : Blk w n #[.int .i64 i, .int .i64 x, .int .i64 y, .int .i64 u, .int .i64 v, .int .i64 p, .int .i64 q, .bool r, .bool f] t) :
    w.cell? ⟨n, 1, none⟩ = some (.int .i64 x) ∧ w.cell? ⟨n, 2, none⟩ = some (.int .i64 y) ∧ w.cell? ⟨n, 5, none⟩ = some (.int .i64 p) ∧ w.cell? ⟨n, 6, none⟩ = some (.int .i64 q) :=
  ⟨h.cell 1, h.cell 2, h.cell 5, h.cell 6⟩

set_option maxHeartbeats 1000000 in
theorem rBounds_yes (i x y u v p q : Int) (r f : Bool) (w : World) (h1 : vldB i x y u v p q r f = true) :
    Calls Tryd.prog 32 #[.agg #[.int .i64 i, .int .i64 x, .int .i64 y, .int .i64 u, .int .i64 v, .int .i64 p, .int .i64 q, .bool r, .bool f]] w
      fun e w' => e = .returned (.tuple #[.agg #[.int .i64 (x - p), .int .i64 (y - q)], .agg #[.int .i64 (x + p), .int .i64 (y + q)]]) ∧ Gr w w' := by
  obtain ⟨-, ⟨hx1, hx2⟩, ⟨hy1, hy2⟩, -, -, ⟨hp1, hp2⟩, ⟨hq1, hq2⟩, -, -⟩ := vldB_iff.1 h1
  go_enter Tryd.func32, Tryd.ntmps32
  go_wp2_with fail
  have h0' : Blk (((w.alloc (.cells #[.int .i64 i, .int .i64 x, .int .i64 y, .int .i64 u, .int .i64 v, .int .i64 p, .int .i64 q, .bool r, .bool f] 25)).alloc (.cells #[.int .i64 0, .int .i64 0] 23)).alloc (.cells #[.int .i64 0, .int .i64 0] 23)) w.heap.size #[.int .i64 i, .int .i64 x, .int .i64 y, .int .i64 u, .int .i64 v, .int .i64 p, .int .i64 q, .bool r, .bool f] 25 := (Blk.new (by simp)).alloc.alloc
  have h1' : Blk (((w.alloc (.cells #[.int .i64 i, .int .i64 x, .int .i64 y, .int .i64 u, .int .i64 v, .int .i64 p, .int .i64 q, .bool r, .bool f] 25)).alloc (.cells #[.int .i64 0, .int .i64 0] 23)).alloc (.cells #[.int .i64 0, .int .i64 0] 23)) (w.heap.size + 1) #[.int .i64 0, .int .i64 0] 23 := (Blk.new (by simp)).alloc
  have h2' : Blk (((w.alloc (.cells #[.int .i64 i, .int .i64 x, .int .i64 y, .int .i64 u, .int .i64 v, .int .i64 p, .int .i64 q, .bool r, .bool f] 25)).alloc (.cells #[.int .i64 0, .int .i64 0] 23)).alloc (.cells #[.int .i64 0, .int .i64 0] 23)) (w.heap.size + 1 + 1) #[.int .i64 0, .int .i64 0] 23 := Blk.new (by simp)
  refine (rValid_any i x y u v p q r f _).mono ?_
  rintro e w1 ⟨rfl, hg⟩
  have g1 := ((((Gr.refl w).alloc _).alloc _).alloc _).trans hg
  have B0 := hg.blk h0'
  obtain ⟨a1, f1⟩ := (hg.blk h1').facts
  obtain ⟨a2, f2⟩ := (hg.blk h2').facts
  have G1 := Lib.hid g1
  clear h0' h1' h2' hg g1
  go_wp2_with fail
  have e1 : IntKind.i64.wrap (x - p) = x - p := IntWalk.i64_in _ (by omega)
  have e2 : IntKind.i64.wrap (y - q) = y - q := IntWalk.i64_in _ (by omega)
  have e3 : IntKind.i64.wrap (x + p) = x + p := IntWalk.i64_in _ (by omega)
  have e4 : IntKind.i64.wrap (y + q) = y + q := IntWalk.i64_in _ (by omega)
  clear hx1 hx2 hy1 hy2 hp1 hp2 hq1 hq2 h1
  go_region_held3 (fun w' => w'.cell? ⟨w.heap.size, 1, none⟩ = some (.int .i64 x) ∧ w'.cell? ⟨w.heap.size, 2, none⟩ = some (.int .i64 y) ∧ w'.cell? ⟨w.heap.size, 5, none⟩ = some (.int .i64 p) ∧ w'.cell? ⟨w.heap.size, 6, none⟩ = some (.int .i64 q))
    (exact rfour_of (i := i) (u := u) (v := v) (r := r) (f := f) (t := 25) (by repeat (first | with_reducible exact B0 | with_reducible refine Blk.drew ?_ | (with_reducible refine Blk.setAt_ne ?_ ?_ _; focus omega))))
    (fail)
  all_goals go_wp2

  all_goals
   refine bodyPost_ret (v := .tuple #[.agg #[.int .i64 (x - p), .int .i64 (y - q)], .agg #[.int .i64 (x + p), .int .i64 (y + q)]]) (by simp [results, Tryd.results32, go_sem, a1, a2]) rfl ⟨rfl, ?_⟩
   repeat (first | with_reducible exact G1.out | (with_reducible refine Gr.setAt ?_ ?_ _; focus omega) | with_reducible refine Gr.drew ?_)
end Go.Proofs.YtggcfjeehpcclaaDoor
