/- The contract of shape.Valid. -/
import Derived.Test.YtggcfjeehpcclaaDoorA1
import Derived.Deep.DeepFit
namespace Go.Proofs.YtggcfjeehpcclaaDoor
open Go.RowKit

def vldB (i x y u v p q : Int) (r f : Bool) : Bool :=
  allIn 0 65536 [i] && allIn (-1048576) 1048576 [x, y] && allIn (-4096) 4096 [u, v] && allIn 1 16384 [p, q] && (!r || p == q) && (!f || (u == 0 && v == 0))

theorem between1 (lo hi x : Int) (b c : Nat) (w : World) (h : ∀ k, k < 1 → w.cell? ⟨b, k, none⟩ = some (.int .i64 ([x].getD k 0))) :
    Calls Tryd.prog 37 #[.int .i64 lo, .int .i64 hi, .slice (some ⟨b, 0, none⟩) 1 c] w fun e w' => e = .returned (.bool (allIn lo hi [x])) ∧ w = w' :=
  between_any lo hi b 1 c [x] w rfl (by omega) h
theorem between2 (lo hi x y : Int) (b c : Nat) (w : World) (h : ∀ k, k < 2 → w.cell? ⟨b, k, none⟩ = some (.int .i64 ([x, y].getD k 0))) :
    Calls Tryd.prog 37 #[.int .i64 lo, .int .i64 hi, .slice (some ⟨b, 0, none⟩) 2 c] w fun e w' => e = .returned (.bool (allIn lo hi [x, y])) ∧ w = w' :=
  between_any lo hi b 2 c [x, y] w rfl (by omega) h

set_option maxHeartbeats 400000 in
theorem Valid_no1 (i x y u v p q : Int) (r f : Bool) (w : World) (h1 : allIn 0 65536 [i] = false) :
    Calls Tryd.prog 28 #[.agg #[.int .i64 i, .int .i64 x, .int .i64 y, .int .i64 u, .int .i64 v, .int .i64 p, .int .i64 q, .bool r, .bool f]] w
      fun e w' => e = .returned (.bool (vldB i x y u v p q r f)) ∧ Gr w w' := by
  have hv : vldB i x y u v p q r f = false := by simp [vldB, h1]
  have HV := Lib.hid hv; clear hv
  go_enter Tryd.func28, Tryd.ntmps28
  go_wp2_with (go_at_call 37; first | ((with_reducible refine (between1 0 65536 i _ _ _ ?_).mono ?_); (exact new1 (by simp)); rintro e w' ⟨rfl, rfl⟩) | ((with_reducible refine (between2 (-1048576) 1048576 x y _ _ _ ?_).mono ?_); (exact new2 (by simp)); rintro e w' ⟨rfl, rfl⟩) | ((with_reducible refine (between2 (-4096) 4096 u v _ _ _ ?_).mono ?_); (exact new2 (by simp)); rintro e w' ⟨rfl, rfl⟩) | ((with_reducible refine (between2 1 16384 p q _ _ _ ?_).mono ?_); (exact new2 (by simp)); rintro e w' ⟨rfl, rfl⟩))
  go_ret
  exact ⟨ret_bool HV.out.symm, by repeat (first | exact Gr.refl _ | refine Gr.alloc ?_ _)⟩

set_option maxHeartbeats 400000 in
theorem Valid_no2 (i x y u v p q : Int) (r f : Bool) (w : World) (h1 : allIn 0 65536 [i] = true) (h2 : allIn (-1048576) 1048576 [x, y] = false) :
    Calls Tryd.prog 28 #[.agg #[.int .i64 i, .int .i64 x, .int .i64 y, .int .i64 u, .int .i64 v, .int .i64 p, .int .i64 q, .bool r, .bool f]] w
      fun e w' => e = .returned (.bool (vldB i x y u v p q r f)) ∧ Gr w w' := by
  have hv : vldB i x y u v p q r f = false := by simp [vldB, h1, h2]
  have HV := Lib.hid hv; clear hv
  go_enter Tryd.func28, Tryd.ntmps28
  go_wp2_with (go_at_call 37; first | ((with_reducible refine (between1 0 65536 i _ _ _ ?_).mono ?_); (exact new1 (by simp)); rintro e w' ⟨rfl, rfl⟩) | ((with_reducible refine (between2 (-1048576) 1048576 x y _ _ _ ?_).mono ?_); (exact new2 (by simp)); rintro e w' ⟨rfl, rfl⟩) | ((with_reducible refine (between2 (-4096) 4096 u v _ _ _ ?_).mono ?_); (exact new2 (by simp)); rintro e w' ⟨rfl, rfl⟩) | ((with_reducible refine (between2 1 16384 p q _ _ _ ?_).mono ?_); (exact new2 (by simp)); rintro e w' ⟨rfl, rfl⟩))
  go_ret
  exact ⟨ret_bool HV.out.symm, by repeat (first | exact Gr.refl _ | refine Gr.alloc ?_ _)⟩

set_option maxHeartbeats 400000 in
theorem Valid_no3 (i x y u v p q : Int) (r f : Bool) (w : World) (h1 : allIn 0 65536 [i] = true) (h2 : allIn (-1048576) 1048576 [x, y] = true) (h3 : allIn (-4096) 4096 [u, v] = false) :
    Calls Tryd.prog 28 #[.agg #[.int .i64 i, .int .i64 x, .int .i64 y, .int .i64 u, .int .i64 v, .int .i64 p, .int .i64 q, .bool r, .bool f]] w
      fun e w' => e = .returned (.bool (vldB i x y u v p q r f)) ∧ Gr w w' := by
  have hv : vldB i x y u v p q r f = false := by simp [vldB, h1, h2, h3]
  have HV := Lib.hid hv; clear hv
  go_enter Tryd.func28, Tryd.ntmps28
  go_wp2_with (go_at_call 37; first | ((with_reducible refine (between1 0 65536 i _ _ _ ?_).mono ?_); (exact new1 (by simp)); rintro e w' ⟨rfl, rfl⟩) | ((with_reducible refine (between2 (-1048576) 1048576 x y _ _ _ ?_).mono ?_); (exact new2 (by simp)); rintro e w' ⟨rfl, rfl⟩) | ((with_reducible refine (between2 (-4096) 4096 u v _ _ _ ?_).mono ?_); (exact new2 (by simp)); rintro e w' ⟨rfl, rfl⟩) | ((with_reducible refine (between2 1 16384 p q _ _ _ ?_).mono ?_); (exact new2 (by simp)); rintro e w' ⟨rfl, rfl⟩))
  go_ret
  exact ⟨ret_bool HV.out.symm, by repeat (first | exact Gr.refl _ | refine Gr.alloc ?_ _)⟩

set_option maxHeartbeats 400000 in
theorem Valid_no4 (i x y u v p q : Int) (r f : Bool) (w : World) (h1 : allIn 0 65536 [i] = true) (h2 : allIn (-1048576) 1048576 [x, y] = true) (h3 : allIn (-4096) 4096 [u, v] = true) (h4 : allIn 1 16384 [p, q] = false) :
    Calls Tryd.prog 28 #[.agg #[.int .i64 i, .int .i64 x, .int .i64 y, .int .i64 u, .int .i64 v, .int .i64 p, .int .i64 q, .bool r, .bool f]] w
      fun e w' => e = .returned (.bool (vldB i x y u v p q r f)) ∧ Gr w w' := by
  have hv : vldB i x y u v p q r f = false := by simp [vldB, h1, h2, h3, h4]
  have HV := Lib.hid hv; clear hv
  go_enter Tryd.func28, Tryd.ntmps28
  go_wp2_with (go_at_call 37; first | ((with_reducible refine (between1 0 65536 i _ _ _ ?_).mono ?_); (exact new1 (by simp)); rintro e w' ⟨rfl, rfl⟩) | ((with_reducible refine (between2 (-1048576) 1048576 x y _ _ _ ?_).mono ?_); (exact new2 (by simp)); rintro e w' ⟨rfl, rfl⟩) | ((with_reducible refine (between2 (-4096) 4096 u v _ _ _ ?_).mono ?_); (exact new2 (by simp)); rintro e w' ⟨rfl, rfl⟩) | ((with_reducible refine (between2 1 16384 p q _ _ _ ?_).mono ?_); (exact new2 (by simp)); rintro e w' ⟨rfl, rfl⟩))
  go_ret
  exact ⟨ret_bool HV.out.symm, by repeat (first | exact Gr.refl _ | refine Gr.alloc ?_ _)⟩

set_option maxHeartbeats 1000000 in
theorem Valid_last (i x y u v p q : Int) (r f : Bool) (w : World) (h1 : allIn 0 65536 [i] = true) (h2 : allIn (-1048576) 1048576 [x, y] = true) (h3 : allIn (-4096) 4096 [u, v] = true) (h4 : allIn 1 16384 [p, q] = true) :
    Calls Tryd.prog 28 #[.agg #[.int .i64 i, .int .i64 x, .int .i64 y, .int .i64 u, .int .i64 v, .int .i64 p, .int .i64 q, .bool r, .bool f]] w
      fun e w' => e = .returned (.bool (vldB i x y u v p q r f)) ∧ Gr w w' := by
  have hv : vldB i x y u v p q r f = ((!r || p == q) && (!f || (u == 0 && v == 0))) := by simp [vldB, h1, h2, h3, h4]
  have HV := Lib.hid hv; clear hv
  go_enter Tryd.func28, Tryd.ntmps28
  go_wp2_with (go_at_call 37; first | ((with_reducible refine (between1 0 65536 i _ _ _ ?_).mono ?_); (exact new1 (by simp)); rintro e w' ⟨rfl, rfl⟩) | ((with_reducible refine (between2 (-1048576) 1048576 x y _ _ _ ?_).mono ?_); (exact new2 (by simp)); rintro e w' ⟨rfl, rfl⟩) | ((with_reducible refine (between2 (-4096) 4096 u v _ _ _ ?_).mono ?_); (exact new2 (by simp)); rintro e w' ⟨rfl, rfl⟩) | ((with_reducible refine (between2 1 16384 p q _ _ _ ?_).mono ?_); (exact new2 (by simp)); rintro e w' ⟨rfl, rfl⟩))
  all_goals
    go_ret
    exact ⟨ret_bool (by rw [HV.out]; simp [*]), by repeat (first | exact Gr.refl _ | refine Gr.alloc ?_ _)⟩

theorem Valid_any (i x y u v p q : Int) (r f : Bool) (w : World) :
    Calls Tryd.prog 28 #[.agg #[.int .i64 i, .int .i64 x, .int .i64 y, .int .i64 u, .int .i64 v, .int .i64 p, .int .i64 q, .bool r, .bool f]] w
      fun e w' => e = .returned (.bool (vldB i x y u v p q r f)) ∧ Gr w w' := by
  cases h1 : allIn 0 65536 [i]
  · exact Valid_no1 i x y u v p q r f w h1
  cases h2 : allIn (-1048576) 1048576 [x, y]
  · exact Valid_no2 i x y u v p q r f w h1 h2
  cases h3 : allIn (-4096) 4096 [u, v]
  · exact Valid_no3 i x y u v p q r f w h1 h2 h3
  cases h4 : allIn 1 16384 [p, q]
  · exact Valid_no4 i x y u v p q r f w h1 h2 h3 h4
  exact Valid_last i x y u v p q r f w h1 h2 h3 h4

theorem vldB_iff {i x y u v p q : Int} {r f : Bool} : vldB i x y u v p q r f = true ↔
    (0 ≤ i ∧ i ≤ 65536) ∧ (-1048576 ≤ x ∧ x ≤ 1048576) ∧ (-1048576 ≤ y ∧ y ≤ 1048576) ∧ (-4096 ≤ u ∧ u ≤ 4096) ∧ (-4096 ≤ v ∧ v ≤ 4096) ∧
    (1 ≤ p ∧ p ≤ 16384) ∧ (1 ≤ q ∧ q ≤ 16384) ∧ (r = true → p = q) ∧ (f = true → u = 0 ∧ v = 0) := by
  unfold vldB allIn
  cases r <;> cases f <;> simp <;> omega

end Go.Proofs.YtggcfjeehpcclaaDoor
