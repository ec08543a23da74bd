/- The contract of shape.far. -/
import Derived.Test.YtggcfjeehpcclaaDoorA3
namespace Go.Proofs.YtggcfjeehpcclaaDoor
open Go.RowKit

/-- The table 'rooms' as it is laid. -/
def Rooms (w : World) : Prop :=
  w.cell? ⟨0, 0, none⟩ = some (.func (.func 60) #[] #[]) ∧ w.cell? ⟨0, 1, none⟩ = some (.func (.func 61) #[] #[]) ∧
  w.cell? ⟨0, 2, none⟩ = some (.func (.func 62) #[] #[]) ∧ w.cell? ⟨0, 3, none⟩ = some (.func (.func 63) #[] #[])
theorem Rooms.gr {a w : World} (h : Rooms a) (g : Gr a w) : Rooms w := ⟨g.cellSome h.1, g.cellSome h.2.1, g.cellSome h.2.2.1, g.cellSome h.2.2.2⟩

def roomV (p q : Int) (r : Bool) (p' q' : Int) (r' : Bool) (dx dy : Int) : Int :=
  if r then (if r' then dx * dx + dy * dy - (p + p') * (p + p') else max (dx - p') 0 * max (dx - p') 0 + max (dy - q') 0 * max (dy - q') 0 - p * p)
  else (if r' then max (dx - p) 0 * max (dx - p) 0 + max (dy - q) 0 * max (dy - q) 0 - p' * p' else max (dx - p - p') (dy - q - q'))

set_option maxHeartbeats 1000000 in
theorem far_no1 (i x y u v p q : Int) (r f : Bool) (i' x' y' u' v' p' q' : Int) (r' f' : Bool) (w : World) (h1 : vldB i x y u v p q r f = false) :
    Calls Tryd.prog 36 #[.agg #[.int .i64 i, .int .i64 x, .int .i64 y, .int .i64 u, .int .i64 v, .int .i64 p, .int .i64 q, .bool r, .bool f],
      .agg #[.int .i64 i', .int .i64 x', .int .i64 y', .int .i64 u', .int .i64 v', .int .i64 p', .int .i64 q', .bool r', .bool f']] w
      fun e w' => e = .returned (.tuple #[.int .i64 0, .bool false]) ∧ Gr w w' := by
  go_enter Tryd.func36, Tryd.ntmps36
  go_wp2_with (go_at_call 28; ((with_reducible refine (Valid_any i x y u v p q r f _).mono ?_); rintro e w1 ⟨rfl, hg⟩; obtain ⟨hc, hf⟩ := bcell hg))
  go_ret2
  exact ⟨rfl, Gr.trans (by repeat (first | exact Gr.refl _ | refine Gr.alloc ?_ _)) hg⟩

set_option maxHeartbeats 1000000 in
theorem far_no2 (i x y u v p q : Int) (r f : Bool) (i' x' y' u' v' p' q' : Int) (r' f' : Bool) (w : World) (h1 : vldB i x y u v p q r f = true) (h2 : vldB i' x' y' u' v' p' q' r' f' = false) :
    Calls Tryd.prog 36 #[.agg #[.int .i64 i, .int .i64 x, .int .i64 y, .int .i64 u, .int .i64 v, .int .i64 p, .int .i64 q, .bool r, .bool f],
      .agg #[.int .i64 i', .int .i64 x', .int .i64 y', .int .i64 u', .int .i64 v', .int .i64 p', .int .i64 q', .bool r', .bool f']] w
      fun e w' => e = .returned (.tuple #[.int .i64 0, .bool false]) ∧ Gr w w' := by
  go_enter Tryd.func36, Tryd.ntmps36
  go_wp2_with (go_at_call 28; first | ((with_reducible refine (Valid_any i x y u v p q r f _).mono ?_); rintro e w1 ⟨rfl, hg⟩; obtain ⟨hc, hf⟩ := bcell hg) | ((with_reducible refine (Valid_any i' x' y' u' v' p' q' r' f' _).mono ?_); rintro e w2 ⟨rfl, hg2⟩))
  go_ret2
  exact ⟨rfl, (Gr.trans (by repeat (first | exact Gr.refl _ | refine Gr.alloc ?_ _)) hg).trans hg2⟩
end Go.Proofs.YtggcfjeehpcclaaDoor
