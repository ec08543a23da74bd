/- Contracts of the statements' small helpers: Box, Round, Pick, Made, made, shifted. -/
import Derived.Test.YtggcfjeehpcclaaDoorB3
import Derived.Test.YtggcfjeehpcclaaDoorB2
namespace Go.Proofs.YtggcfjeehpcclaaDoor
open Go.RowKit

theorem Box_any (x y p q : Int) (w : World) :
    Calls Tryd.prog 15 #[.int .i64 x, .int .i64 y, .int .i64 p, .int .i64 q] w
      fun e w' => e = .returned (.agg #[.int .i64 0, .int .i64 x, .int .i64 y, .int .i64 0, .int .i64 0, .int .i64 p, .int .i64 q, .bool false, .bool false]) ∧ Gr w w' := by
  go_enter Tryd.func15, Tryd.ntmps15
  go_wp2
  refine bodyPost_ret (v := .agg #[.int .i64 0, .int .i64 x, .int .i64 y, .int .i64 0, .int .i64 0, .int .i64 p, .int .i64 q, .bool false, .bool false]) (by simp [results, Tryd.results15, go_sem]) rfl ⟨rfl, ?_⟩
  repeat (first | with_reducible exact Gr.refl _ | with_reducible assumption | (with_reducible refine Gr.setAt ?_ ?_ _; focus omega) | with_reducible refine Gr.alloc ?_ _ | with_reducible refine Gr.drew ?_ | with_reducible refine Gr.drewN ?_ _ | with_reducible refine Gr.trans ?_ (by assumption))

theorem Round_any (x y p : Int) (w : World) :
    Calls Tryd.prog 16 #[.int .i64 x, .int .i64 y, .int .i64 p] w
      fun e w' => e = .returned (.agg #[.int .i64 0, .int .i64 x, .int .i64 y, .int .i64 0, .int .i64 0, .int .i64 p, .int .i64 p, .bool true, .bool false]) ∧ Gr w w' := by
  go_enter Tryd.func16, Tryd.ntmps16
  go_wp2
  refine bodyPost_ret (v := .agg #[.int .i64 0, .int .i64 x, .int .i64 y, .int .i64 0, .int .i64 0, .int .i64 p, .int .i64 p, .bool true, .bool false]) (by simp [results, Tryd.results16, go_sem]) rfl ⟨rfl, ?_⟩
  repeat (first | with_reducible exact Gr.refl _ | with_reducible assumption | (with_reducible refine Gr.setAt ?_ ?_ _; focus omega) | with_reducible refine Gr.alloc ?_ _ | with_reducible refine Gr.drew ?_ | with_reducible refine Gr.drewN ?_ _ | with_reducible refine Gr.trans ?_ (by assumption))

end Go.Proofs.YtggcfjeehpcclaaDoor
