/- Contracts of the reference's within, Valid, far. -/
import Derived.Test.YtggcfjeehpcclaaDoorA2
import Derived.Deep.QuietTactic
import Derived.BigQuiet
import Derived.Deep.RegionHeld3
namespace Go.Proofs.YtggcfjeehpcclaaDoor
open Go.RowKit

theorem within_any (x m : Int) (w : World) (hm : 0 ≤ m) (hm' : m ≤ 2000000) :
    Calls Tryd.prog 40 #[.int .i64 x, .int .i64 m] w fun e w' => e = .returned (.bool (decide (-m ≤ x) && decide (x ≤ m))) ∧ w = w' := by
  by_cases h1 : -m ≤ x <;> by_cases h2 : x ≤ m
  all_goals
    go_enter Tryd.func40, Tryd.ntmps40
    go_wp2
    go_ret
    exact ⟨ret_bool (by simp [*]), rfl⟩

theorem rfar_any (x l m : Int) (w : World) (hx : -4000000 ≤ x ∧ x ≤ 4000000) (hl : -4000000 ≤ l ∧ l ≤ 4000000) (hh : -4000000 ≤ m ∧ m ≤ 4000000) :
    Calls Tryd.prog 43 #[.int .i64 x, .int .i64 l, .int .i64 m] w fun e w' => e = .returned (.int .i64 (if x < l then l - x else if m < x then x - m else 0)) ∧ w = w' := by
  obtain ⟨hx1, hx2⟩ := hx; obtain ⟨hl1, hl2⟩ := hl; obtain ⟨hh1, hh2⟩ := hh
  by_cases h1 : x < l
  · go_enter Tryd.func43, Tryd.ntmps43
    go_wp2
    go_ret
    exact ⟨rfl, rfl⟩
  by_cases h2 : m < x
  · go_enter Tryd.func43, Tryd.ntmps43
    go_wp2
    go_ret
    exact ⟨ret_int (by omega), rfl⟩
  · go_enter Tryd.func43, Tryd.ntmps43
    go_wp2
    go_ret
    exact ⟨ret_int (by omega), rfl⟩

theorem vldB_eq {i x y u v p q : Int} {r f : Bool} {b : Bool} (h : b = true ↔
    (0 ≤ i ∧ i ≤ 65536) ∧ (-1048576 ≤ x ∧ x ≤ 1048576) ∧ (-1048576 ≤ y ∧ y ≤ 1048576) ∧ (-4096 ≤ u ∧ u ≤ 4096) ∧ (-4096 ≤ v ∧ v ≤ 4096) ∧
    (1 ≤ p ∧ p ≤ 16384) ∧ (1 ≤ q ∧ q ≤ 16384) ∧ (r = true → p = q) ∧ (f = true → u = 0 ∧ v = 0)) : b = vldB i x y u v p q r f := by
  rw [Bool.eq_iff_iff, h, vldB_iff]

set_option maxHeartbeats 2000000 in
theorem rValid_any (i x y u v p q : Int) (r f : Bool) (w : World) :
    Calls Tryd.prog 33 #[.agg #[.int .i64 i, .int .i64 x, .int .i64 y, .int .i64 u, .int .i64 v, .int .i64 p, .int .i64 q, .bool r, .bool f]] w
      fun e w' => e = .returned (.bool (vldB i x y u v p q r f)) ∧ Gr w w' := by
  go_enter Tryd.func33, Tryd.ntmps33
  go_wp2_with (go_at_call 40; first
    | ((with_reducible refine (within_any x 1048576 _ (by omega) (by omega)).mono ?_); rintro e w1 ⟨rfl, rfl⟩)
    | ((with_reducible refine (within_any y 1048576 _ (by omega) (by omega)).mono ?_); rintro e w1 ⟨rfl, rfl⟩)
    | ((with_reducible refine (within_any u 4096 _ (by omega) (by omega)).mono ?_); rintro e w1 ⟨rfl, rfl⟩)
    | ((with_reducible refine (within_any v 4096 _ (by omega) (by omega)).mono ?_); rintro e w1 ⟨rfl, rfl⟩))
  all_goals
    go_ret
    exact ⟨ret_bool (vldB_eq (by cases r <;> cases f <;> (try simp at *) <;> omega)), by repeat (first | with_reducible exact Gr.refl _ | with_reducible refine Gr.alloc ?_ _)⟩
end Go.Proofs.YtggcfjeehpcclaaDoor
