/- Contracts of shape.kind, boxes, circles, boxCircle, circleBox. -/
import Derived.Test.YtggcfjeehpcclaaDoorA2
import Derived.Deep.QuietTactic
import Derived.BigQuiet
import Derived.Deep.RegionHeld3
namespace Go.Proofs.YtggcfjeehpcclaaDoor
open Go.RowKit

theorem quiet_same {P : Program} {f : FuncId} {args : Array Value} {w : World} {n : Nat} {v : Value}
    (h : Calls P f args (w.drewN n) fun e w' => e = .returned v ∧ w.drewN n = w') : Calls P f args (w.drewN n) fun e w'' => e = .returned v ∧ ∃ m, w'' = w.drewN m :=
  h.mono fun _ _ ⟨he, hm⟩ => ⟨he, n, hm.symm⟩

theorem kind_any (i x y u v p q : Int) (r f : Bool) (w : World) :
    Calls Tryd.prog 41 #[.agg #[.int .i64 i, .int .i64 x, .int .i64 y, .int .i64 u, .int .i64 v, .int .i64 p, .int .i64 q, .bool r, .bool f]] w
      fun e w' => e = .returned (.int .i64 (if r then 1 else 0)) ∧ Gr w w' := by
  cases r <;>
  · go_enter Tryd.func41, Tryd.ntmps41
    go_wp2
    go_ret
    exact ⟨rfl, by repeat (first | exact Gr.refl _ | refine Gr.alloc ?_ _)⟩

theorem boxes_any (i x y u v p q : Int) (r f : Bool) (i' x' y' u' v' p' q' : Int) (r' f' : Bool) (dx dy : Int) (w : World)
    (hp : 1 ≤ p ∧ p ≤ 16384) (hq : 1 ≤ q ∧ q ≤ 16384) (hp' : 1 ≤ p' ∧ p' ≤ 16384) (hq' : 1 ≤ q' ∧ q' ≤ 16384) (hx : 0 ≤ dx ∧ dx ≤ 3000000) (hy : 0 ≤ dy ∧ dy ≤ 3000000) :
    Calls Tryd.prog 60 #[.agg #[.int .i64 i, .int .i64 x, .int .i64 y, .int .i64 u, .int .i64 v, .int .i64 p, .int .i64 q, .bool r, .bool f],
      .agg #[.int .i64 i', .int .i64 x', .int .i64 y', .int .i64 u', .int .i64 v', .int .i64 p', .int .i64 q', .bool r', .bool f'], .int .i64 dx, .int .i64 dy] w
      fun e w' => e = .returned (.int .i64 (max (dx - p - p') (dy - q - q'))) ∧ Gr w w' := by
  obtain ⟨hp1, hp2⟩ := hp; obtain ⟨hq1, hq2⟩ := hq; obtain ⟨hp3, hp4⟩ := hp'; obtain ⟨hq3, hq4⟩ := hq'; obtain ⟨hx1, hx2⟩ := hx; obtain ⟨hy1, hy2⟩ := hy
  go_enter Tryd.func60, Tryd.ntmps60
  go_wp2
  all_goals
    go_ret
    exact ⟨ret_int (by omega), by repeat (first | exact Gr.refl _ | refine Gr.alloc ?_ _)⟩

theorem circles_any (i x y u v p q : Int) (r f : Bool) (i' x' y' u' v' p' q' : Int) (r' f' : Bool) (dx dy : Int) (w : World)
    (hp : 1 ≤ p ∧ p ≤ 16384) (hp' : 1 ≤ p' ∧ p' ≤ 16384) (hx : 0 ≤ dx * dx ∧ dx * dx ≤ 1000000000000000) (hy : 0 ≤ dy * dy ∧ dy * dy ≤ 1000000000000000)
    (hm : 0 ≤ (p + p') * (p + p') ∧ (p + p') * (p + p') ≤ 2000000000) :
    Calls Tryd.prog 63 #[.agg #[.int .i64 i, .int .i64 x, .int .i64 y, .int .i64 u, .int .i64 v, .int .i64 p, .int .i64 q, .bool r, .bool f],
      .agg #[.int .i64 i', .int .i64 x', .int .i64 y', .int .i64 u', .int .i64 v', .int .i64 p', .int .i64 q', .bool r', .bool f'], .int .i64 dx, .int .i64 dy] w
      fun e w' => e = .returned (.int .i64 (dx * dx + dy * dy - (p + p') * (p + p'))) ∧ Gr w w' := by
  obtain ⟨hp1, hp2⟩ := hp; obtain ⟨hp3, hp4⟩ := hp'; obtain ⟨hx1, hx2⟩ := hx; obtain ⟨hy1, hy2⟩ := hy; obtain ⟨hm1, hm2⟩ := hm
  go_enter Tryd.func63, Tryd.ntmps63
  go_wp2_with fail
  go_quiet ((go_at_call 38; exact quiet_same (square_any dx dy _ hx1 (by omega) hy1 (by omega))))
  go_wp2
  go_ret
  exact ⟨rfl, by repeat (first | exact Gr.refl _ | refine Gr.alloc ?_ _ | refine Gr.drewN ?_ _)⟩

theorem boxCircle_any (i x y u v p q : Int) (r f : Bool) (i' x' y' u' v' p' q' : Int) (r' f' : Bool) (dx dy : Int) (w : World)
    (hp : 1 ≤ p ∧ p ≤ 16384) (hq : 1 ≤ q ∧ q ≤ 16384) (hp' : 1 ≤ p' ∧ p' ≤ 16384) (hx : 0 ≤ dx ∧ dx ≤ 3000000) (hy : 0 ≤ dy ∧ dy ≤ 3000000) :
    Calls Tryd.prog 61 #[.agg #[.int .i64 i, .int .i64 x, .int .i64 y, .int .i64 u, .int .i64 v, .int .i64 p, .int .i64 q, .bool r, .bool f],
      .agg #[.int .i64 i', .int .i64 x', .int .i64 y', .int .i64 u', .int .i64 v', .int .i64 p', .int .i64 q', .bool r', .bool f'], .int .i64 dx, .int .i64 dy] w
      fun e w' => e = .returned (.int .i64 (max (dx - p) 0 * max (dx - p) 0 + max (dy - q) 0 * max (dy - q) 0 - p' * p')) ∧ Gr w w' := by
  obtain ⟨hp1, hp2⟩ := hp; obtain ⟨hq1, hq2⟩ := hq; obtain ⟨hp3, hp4⟩ := hp'; obtain ⟨hx1, hx2⟩ := hx; obtain ⟨hy1, hy2⟩ := hy
  have hm1 : 0 ≤ p' * p' := Int.mul_nonneg (by omega) (by omega)
  have hm2 : p' * p' ≤ 16384 * 16384 := Int.mul_le_mul hp4 hp4 (by omega) (by omega)
  by_cases hX : p ≤ dx <;> by_cases hY : q ≤ dy
  · have c1 : p ≤ dx := hX
    have c2 : q ≤ dy := hY
    clear hX hY
    have eX : max (dx - p) 0 = dx - p := by omega
    have eY : max (dy - q) 0 = dy - q := by omega
    rw [eX, eY]
    clear eX eY
    have a1 : 0 ≤ (dx - p) * (dx - p) := Int.mul_nonneg (by omega) (by omega)
    have a2 : (dx - p) * (dx - p) ≤ 3000000 * 3000000 := Int.mul_le_mul (by omega) (by omega) (by omega) (by omega)
    have b1 : 0 ≤ (dy - q) * (dy - q) := Int.mul_nonneg (by omega) (by omega)
    have b2 : (dy - q) * (dy - q) ≤ 3000000 * 3000000 := Int.mul_le_mul (by omega) (by omega) (by omega) (by omega)
    go_enter Tryd.func61, Tryd.ntmps61
    go_wp2_with fail
    go_quiet ((go_at_call 38; exact quiet_same (square_any (dx - p) (dy - q) _ (by omega) (by omega) (by omega) (by omega))))
    go_wp2
    go_ret
    exact ⟨ret_int (by omega), by repeat (first | exact Gr.refl _ | refine Gr.alloc ?_ _ | refine Gr.drewN ?_ _)⟩
  · have c1 : p ≤ dx := hX
    have c2 : dy < q := by omega
    clear hX hY
    have eX : max (dx - p) 0 = dx - p := by omega
    have eY : max (dy - q) 0 = 0 := by omega
    rw [eX, eY]
    clear eX eY
    have a1 : 0 ≤ (dx - p) * (dx - p) := Int.mul_nonneg (by omega) (by omega)
    have a2 : (dx - p) * (dx - p) ≤ 3000000 * 3000000 := Int.mul_le_mul (by omega) (by omega) (by omega) (by omega)
    go_enter Tryd.func61, Tryd.ntmps61
    go_wp2_with fail
    go_quiet ((go_at_call 38; exact quiet_same (square_any (dx - p) (0) _ (by omega) (by omega) (by omega) (by omega))))
    go_wp2
    go_ret
    exact ⟨ret_int (by omega), by repeat (first | exact Gr.refl _ | refine Gr.alloc ?_ _ | refine Gr.drewN ?_ _)⟩
  · have c1 : dx < p := by omega
    have c2 : q ≤ dy := hY
    clear hX hY
    have eX : max (dx - p) 0 = 0 := by omega
    have eY : max (dy - q) 0 = dy - q := by omega
    rw [eX, eY]
    clear eX eY
    have b1 : 0 ≤ (dy - q) * (dy - q) := Int.mul_nonneg (by omega) (by omega)
    have b2 : (dy - q) * (dy - q) ≤ 3000000 * 3000000 := Int.mul_le_mul (by omega) (by omega) (by omega) (by omega)
    go_enter Tryd.func61, Tryd.ntmps61
    go_wp2_with fail
    go_quiet ((go_at_call 38; exact quiet_same (square_any (0) (dy - q) _ (by omega) (by omega) (by omega) (by omega))))
    go_wp2
    go_ret
    exact ⟨ret_int (by omega), by repeat (first | exact Gr.refl _ | refine Gr.alloc ?_ _ | refine Gr.drewN ?_ _)⟩
  · have c1 : dx < p := by omega
    have c2 : dy < q := by omega
    clear hX hY
    have eX : max (dx - p) 0 = 0 := by omega
    have eY : max (dy - q) 0 = 0 := by omega
    rw [eX, eY]
    clear eX eY
    go_enter Tryd.func61, Tryd.ntmps61
    go_wp2_with fail
    go_quiet ((go_at_call 38; exact quiet_same (square_any (0) (0) _ (by omega) (by omega) (by omega) (by omega))))
    go_wp2
    go_ret
    exact ⟨ret_int (by omega), by repeat (first | exact Gr.refl _ | refine Gr.alloc ?_ _ | refine Gr.drewN ?_ _)⟩

theorem circleBox_any (i x y u v p q : Int) (r f : Bool) (i' x' y' u' v' p' q' : Int) (r' f' : Bool) (dx dy : Int) (w : World)
    (hp : 1 ≤ p ∧ p ≤ 16384) (hp' : 1 ≤ p' ∧ p' ≤ 16384) (hq' : 1 ≤ q' ∧ q' ≤ 16384) (hx : 0 ≤ dx ∧ dx ≤ 3000000) (hy : 0 ≤ dy ∧ dy ≤ 3000000) :
    Calls Tryd.prog 62 #[.agg #[.int .i64 i, .int .i64 x, .int .i64 y, .int .i64 u, .int .i64 v, .int .i64 p, .int .i64 q, .bool r, .bool f],
      .agg #[.int .i64 i', .int .i64 x', .int .i64 y', .int .i64 u', .int .i64 v', .int .i64 p', .int .i64 q', .bool r', .bool f'], .int .i64 dx, .int .i64 dy] w
      fun e w' => e = .returned (.int .i64 (max (dx - p') 0 * max (dx - p') 0 + max (dy - q') 0 * max (dy - q') 0 - p * p)) ∧ Gr w w' := by
  go_enter Tryd.func62, Tryd.ntmps62
  go_wp2_with (go_at_call 61; ((with_reducible refine (boxCircle_any i' x' y' u' v' p' q' r' f' i x y u v p q r f dx dy _ hp' hq' hp hx hy).mono ?_); rintro e w1 ⟨rfl, hg⟩))
  go_ret
  exact ⟨rfl, Gr.trans (by repeat (first | exact Gr.refl _ | refine Gr.alloc ?_ _)) hg⟩

end Go.Proofs.YtggcfjeehpcclaaDoor
