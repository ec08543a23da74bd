/- Made, made, shifted: the statements' bodies. -/
import Derived.Test.YtggcfjeehpcclaaDoorD1
import Derived.Test.YtggcfjeehpcclaaDoorA5
namespace Go.Proofs.YtggcfjeehpcclaaDoor
open Go.RowKit

def I64 (n : Int) : Prop := -9223372036854775808 ≤ n ∧ n ≤ 9223372036854775807
theorem Pick_in (x n : Int) (w : World) (hn : 1 ≤ n) (hn' : n ≤ 1000000000) (hx : I64 x) :
    Calls Tryd.prog 23 #[.int .i64 x, .int .i64 n] w fun e w' => e = .returned (.int .i64 (pickI x n)) ∧ w = w' := Pick_any x n w hn hn' hx.1 hx.2

set_option maxHeartbeats 1000000 in
theorem Made_round (x y p q : Int) (w : World) (hx : I64 x) (hy : I64 y) (hp : I64 p) (hq : I64 q) :
    Calls Tryd.prog 35 #[.int .i64 x, .int .i64 y, .int .i64 p, .int .i64 q, .bool true] w
      fun e w' => e = .returned (.agg #[.int .i64 0, .int .i64 (pickI x 801 - 400), .int .i64 (pickI y 801 - 400), .int .i64 0, .int .i64 0, .int .i64 (1 + pickI p 300), .int .i64 (1 + pickI p 300), .bool true, .bool false]) ∧ Gr w w' := by
  obtain ⟨b1, b2⟩ := pickI_bd (x := x) (n := 801) (by decide)
  obtain ⟨b3, b4⟩ := pickI_bd (x := y) (n := 801) (by decide)
  obtain ⟨b5, b6⟩ := pickI_bd (x := p) (n := 300) (by decide)
  obtain ⟨b7, b8⟩ := pickI_bd (x := q) (n := 300) (by decide)
  go_enter Tryd.func35, Tryd.ntmps35
  go_wp2_with (first
    | (go_at_call 23; first
        | ((with_reducible refine (Pick_in x 801 _ (by omega) (by omega) hx).mono ?_); rintro e wc ⟨rfl, rfl⟩)
        | ((with_reducible refine (Pick_in y 801 _ (by omega) (by omega) hy).mono ?_); rintro e wc ⟨rfl, rfl⟩)
        | ((with_reducible refine (Pick_in p 300 _ (by omega) (by omega) hp).mono ?_); rintro e wc ⟨rfl, rfl⟩)
        | ((with_reducible refine (Pick_in q 300 _ (by omega) (by omega) hq).mono ?_); rintro e wc ⟨rfl, rfl⟩))
    | (go_at_call 15; ((with_reducible refine (Box_any _ _ _ _ _).mono ?_); rintro e w1 ⟨rfl, hg⟩; have bR := hg.blk (n := w.heap.size) (cs := #[.int .i64 0, .int .i64 0, .int .i64 0, .int .i64 0, .int .i64 0, .int .i64 0, .int .i64 0, .bool false, .bool false]) (t := 25) (Blk.new rfl); obtain ⟨aR, fR⟩ := bR.facts; have lR := bR.lt; have gR : Gr w w1 := ((Gr.refl _).alloc _).trans hg)))
  refine bodyPost_ret (v := .agg #[.int .i64 0, .int .i64 (pickI x 801 - 400), .int .i64 (pickI y 801 - 400), .int .i64 0, .int .i64 0, .int .i64 (1 + pickI p 300), .int .i64 (1 + pickI p 300), .bool true, .bool false]) (by simp [results, Tryd.results35, go_sem, aR, lR]) rfl ⟨rfl, ?_⟩
  repeat (first | with_reducible exact Gr.refl _ | with_reducible assumption | (with_reducible refine Gr.setAt ?_ ?_ _; focus omega) | with_reducible refine Gr.alloc ?_ _ | with_reducible refine Gr.drew ?_ | with_reducible refine Gr.drewN ?_ _ | with_reducible refine Gr.trans ?_ (by assumption))

set_option maxHeartbeats 1000000 in
theorem Made_box (x y p q : Int) (w : World) (hx : I64 x) (hy : I64 y) (hp : I64 p) (hq : I64 q) :
    Calls Tryd.prog 35 #[.int .i64 x, .int .i64 y, .int .i64 p, .int .i64 q, .bool false] w
      fun e w' => e = .returned (.agg #[.int .i64 0, .int .i64 (pickI x 801 - 400), .int .i64 (pickI y 801 - 400), .int .i64 0, .int .i64 0, .int .i64 (1 + pickI p 300), .int .i64 (1 + pickI q 300), .bool false, .bool false]) ∧ Gr w w' := by
  obtain ⟨b1, b2⟩ := pickI_bd (x := x) (n := 801) (by decide)
  obtain ⟨b3, b4⟩ := pickI_bd (x := y) (n := 801) (by decide)
  obtain ⟨b5, b6⟩ := pickI_bd (x := p) (n := 300) (by decide)
  obtain ⟨b7, b8⟩ := pickI_bd (x := q) (n := 300) (by decide)
  go_enter Tryd.func35, Tryd.ntmps35
  go_wp2_with (first
    | (go_at_call 23; first
        | ((with_reducible refine (Pick_in x 801 _ (by omega) (by omega) hx).mono ?_); rintro e wc ⟨rfl, rfl⟩)
        | ((with_reducible refine (Pick_in y 801 _ (by omega) (by omega) hy).mono ?_); rintro e wc ⟨rfl, rfl⟩)
        | ((with_reducible refine (Pick_in p 300 _ (by omega) (by omega) hp).mono ?_); rintro e wc ⟨rfl, rfl⟩)
        | ((with_reducible refine (Pick_in q 300 _ (by omega) (by omega) hq).mono ?_); rintro e wc ⟨rfl, rfl⟩))
    | (go_at_call 15; ((with_reducible refine (Box_any _ _ _ _ _).mono ?_); rintro e w1 ⟨rfl, hg⟩; have bR := hg.blk (n := w.heap.size) (cs := #[.int .i64 0, .int .i64 0, .int .i64 0, .int .i64 0, .int .i64 0, .int .i64 0, .int .i64 0, .bool false, .bool false]) (t := 25) (Blk.new rfl); obtain ⟨aR, fR⟩ := bR.facts; have lR := bR.lt; have gR : Gr w w1 := ((Gr.refl _).alloc _).trans hg)))
  refine bodyPost_ret (v := .agg #[.int .i64 0, .int .i64 (pickI x 801 - 400), .int .i64 (pickI y 801 - 400), .int .i64 0, .int .i64 0, .int .i64 (1 + pickI p 300), .int .i64 (1 + pickI q 300), .bool false, .bool false]) (by simp [results, Tryd.results35, go_sem, aR, lR]) rfl ⟨rfl, ?_⟩
  repeat (first | with_reducible exact Gr.refl _ | with_reducible assumption | (with_reducible refine Gr.setAt ?_ ?_ _; focus omega) | with_reducible refine Gr.alloc ?_ _ | with_reducible refine Gr.drew ?_ | with_reducible refine Gr.drewN ?_ _ | with_reducible refine Gr.trans ?_ (by assumption))

/-- The second half of a body that Made makes. -/
def mkQ (p q : Int) (r : Bool) : Int := if r then 1 + pickI p 300 else 1 + pickI q 300
theorem Made_any (x y p q : Int) (r : Bool) (w : World) (hx : I64 x) (hy : I64 y) (hp : I64 p) (hq : I64 q) :
    Calls Tryd.prog 35 #[.int .i64 x, .int .i64 y, .int .i64 p, .int .i64 q, .bool r] w
      fun e w' => e = .returned (.agg #[.int .i64 0, .int .i64 (pickI x 801 - 400), .int .i64 (pickI y 801 - 400), .int .i64 0, .int .i64 0, .int .i64 (1 + pickI p 300), .int .i64 (mkQ p q r), .bool r, .bool false]) ∧ Gr w w' := by
  cases r
  · exact Made_box x y p q w hx hy hp hq
  · exact Made_round x y p q w hx hy hp hq

set_option maxHeartbeats 1000000 in
theorem made_any (x y p q : Int) (r : Bool) (w : World) (hx : I64 x) (hy : I64 y) (hp : I64 p) (hq : I64 q) :
    Calls Tryd.prog 17 #[.agg #[.int .i64 x, .int .i64 y, .int .i64 p, .int .i64 q, .bool r]] w
      fun e w' => e = .returned (.agg #[.int .i64 0, .int .i64 (pickI x 801 - 400), .int .i64 (pickI y 801 - 400), .int .i64 0, .int .i64 0, .int .i64 (1 + pickI p 300), .int .i64 (mkQ p q r), .bool r, .bool false]) ∧ Gr w w' := by
  go_enter Tryd.func17, Tryd.ntmps17
  go_wp2_with fail
  refine (Made_any x y p q r _ hx hy hp hq).mono ?_
  rintro e w1 ⟨rfl, hg⟩
  have bR := hg.blk (n := w.heap.size + 1) (cs := #[.int .i64 0, .int .i64 0, .int .i64 0, .int .i64 0, .int .i64 0, .int .i64 0, .int .i64 0, .bool false, .bool false]) (t := 25) (Blk.new (by simp))
  obtain ⟨aR, fR⟩ := bR.facts
  have lR := bR.lt
  have gR : Gr w w1 := (((Gr.refl _).alloc _).alloc _).trans hg
  clear hg
  go_wp2
  refine bodyPost_ret (v := .agg #[.int .i64 0, .int .i64 (pickI x 801 - 400), .int .i64 (pickI y 801 - 400), .int .i64 0, .int .i64 0, .int .i64 (1 + pickI p 300), .int .i64 (mkQ p q r), .bool r, .bool false]) (by simp [results, Tryd.results17, go_sem, aR]) rfl ⟨rfl, ?_⟩
  repeat (first | with_reducible exact Gr.refl _ | with_reducible assumption | (with_reducible refine Gr.setAt ?_ ?_ _; focus omega) | with_reducible refine Gr.alloc ?_ _ | with_reducible refine Gr.drew ?_ | with_reducible refine Gr.drewN ?_ _ | with_reducible refine Gr.trans ?_ (by assumption))

set_option maxHeartbeats 1000000 in
theorem shifted_any (i x y u v p q : Int) (r f : Bool) (dx dy : Int) (w : World) (hx : -4000000000 ≤ x + dx ∧ x + dx ≤ 4000000000) (hy : -4000000000 ≤ y + dy ∧ y + dy ≤ 4000000000) :
    Calls Tryd.prog 18 #[.agg #[.int .i64 i, .int .i64 x, .int .i64 y, .int .i64 u, .int .i64 v, .int .i64 p, .int .i64 q, .bool r, .bool f], .int .i64 dx, .int .i64 dy] w
      fun e w' => e = .returned (.agg #[.int .i64 i, .int .i64 (x + dx), .int .i64 (y + dy), .int .i64 u, .int .i64 v, .int .i64 p, .int .i64 q, .bool r, .bool f]) ∧ Gr w w' := by
  obtain ⟨hx1, hx2⟩ := hx; obtain ⟨hy1, hy2⟩ := hy
  go_enter Tryd.func18, Tryd.ntmps18
  go_wp2
  refine bodyPost_ret (v := .agg #[.int .i64 i, .int .i64 (x + dx), .int .i64 (y + dy), .int .i64 u, .int .i64 v, .int .i64 p, .int .i64 q, .bool r, .bool f]) (by simp [results, Tryd.results18, go_sem]) rfl ⟨rfl, ?_⟩
  repeat (first | with_reducible exact Gr.refl _ | with_reducible assumption | (with_reducible refine Gr.setAt ?_ ?_ _; focus omega) | with_reducible refine Gr.alloc ?_ _ | with_reducible refine Gr.drew ?_ | with_reducible refine Gr.drewN ?_ _ | with_reducible refine Gr.trans ?_ (by assumption))
end Go.Proofs.YtggcfjeehpcclaaDoor
