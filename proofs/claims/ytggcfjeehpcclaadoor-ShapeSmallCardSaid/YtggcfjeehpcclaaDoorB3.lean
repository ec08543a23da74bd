/- The contracts of shape.Overlap, Meet, Touch. -/
import Derived.Test.YtggcfjeehpcclaaDoorA5
namespace Go.Proofs.YtggcfjeehpcclaaDoor
open Go.RowKit

/-- How far two bodies are from each other. -/
def farV (x y p q : Int) (r : Bool) (x' y' p' q' : Int) (r' : Bool) : Int := roomV p q r p' q' r' (max (x - x') (-(x - x'))) (max (y - y') (-(y - y')))

def bothB (i x y u v p q : Int) (r f : Bool) (i' x' y' u' v' p' q' : Int) (r' f' : Bool) : Bool := vldB i x y u v p q r f && vldB i' x' y' u' v' p' q' r' f'

theorem far_no (i x y u v p q : Int) (r f : Bool) (i' x' y' u' v' p' q' : Int) (r' f' : Bool) (w : World) (hv0 : bothB i x y u v p q r f i' x' y' u' v' p' q' r' f' = false) :
    Calls Tryd.prog 36 #[.agg #[.int .i64 i, .int .i64 x, .int .i64 y, .int .i64 u, .int .i64 v, .int .i64 p, .int .i64 q, .bool r, .bool f], .agg #[.int .i64 i', .int .i64 x', .int .i64 y', .int .i64 u', .int .i64 v', .int .i64 p', .int .i64 q', .bool r', .bool f']] w
      fun e w' => e = .returned (.tuple #[.int .i64 0, .bool false]) ∧ Gr w w' := by
  have hv : (vldB i x y u v p q r f && vldB i' x' y' u' v' p' q' r' f') = false := hv0
  cases h1 : vldB i x y u v p q r f
  · exact far_no1 i x y u v p q r f i' x' y' u' v' p' q' r' f' w h1
  · rw [h1] at hv
    exact far_no2 i x y u v p q r f i' x' y' u' v' p' q' r' f' w h1 (by simpa using hv)

theorem far_yes (i x y u v p q : Int) (r f : Bool) (i' x' y' u' v' p' q' : Int) (r' f' : Bool) (w : World) (hR : Rooms w) (hv0 : bothB i x y u v p q r f i' x' y' u' v' p' q' r' f' = true) :
    Calls Tryd.prog 36 #[.agg #[.int .i64 i, .int .i64 x, .int .i64 y, .int .i64 u, .int .i64 v, .int .i64 p, .int .i64 q, .bool r, .bool f], .agg #[.int .i64 i', .int .i64 x', .int .i64 y', .int .i64 u', .int .i64 v', .int .i64 p', .int .i64 q', .bool r', .bool f']] w
      fun e w' => e = .returned (.tuple #[.int .i64 (farV x y p q r x' y' p' q' r'), .bool true]) ∧ Gr w w' := by
  have hv : (vldB i x y u v p q r f && vldB i' x' y' u' v' p' q' r' f') = true := hv0
  rw [Bool.and_eq_true] at hv
  obtain ⟨h1, h2⟩ := hv
  cases r <;> cases r'
  · exact far_yes00 i x y u v p q f i' x' y' u' v' p' q' f' w h1 h2 hR
  · exact far_yes01 i x y u v p q f i' x' y' u' v' p' q' f' w h1 h2 hR
  · exact far_yes10 i x y u v p q f i' x' y' u' v' p' q' f' w h1 h2 hR
  · exact far_yes11 i x y u v p q f i' x' y' u' v' p' q' f' w h1 h2 hR

def ovB (i x y u v p q : Int) (r f : Bool) (i' x' y' u' v' p' q' : Int) (r' f' : Bool) : Bool := bothB i x y u v p q r f i' x' y' u' v' p' q' r' f' && decide (farV x y p q r x' y' p' q' r' < 0)
set_option maxHeartbeats 1000000 in
theorem Overlap_any (i x y u v p q : Int) (r f : Bool) (i' x' y' u' v' p' q' : Int) (r' f' : Bool) (w : World) (hR : Rooms w) :
    Calls Tryd.prog 20 #[.agg #[.int .i64 i, .int .i64 x, .int .i64 y, .int .i64 u, .int .i64 v, .int .i64 p, .int .i64 q, .bool r, .bool f], .agg #[.int .i64 i', .int .i64 x', .int .i64 y', .int .i64 u', .int .i64 v', .int .i64 p', .int .i64 q', .bool r', .bool f']] w
      fun e w' => e = .returned (.bool (ovB i x y u v p q r f i' x' y' u' v' p' q' r' f')) ∧ Gr w w' := by
  have HR := Lib.hid hR; clear hR
  cases hv : bothB i x y u v p q r f i' x' y' u' v' p' q' r' f'
  · have ho : ovB i x y u v p q r f i' x' y' u' v' p' q' r' f' = false := by simp [ovB, hv]
    have HO := Lib.hid ho; have HV := Lib.hid hv; clear ho hv
    go_enter Tryd.func20, Tryd.ntmps20
    go_wp2_with (go_at_call 36; ((with_reducible refine (far_no i x y u v p q r f i' x' y' u' v' p' q' r' f' _ HV.out).mono ?_); rintro e w1 ⟨rfl, hg⟩))
    go_ret
    exact ⟨ret_bool HO.out.symm, by repeat (first | with_reducible exact Gr.refl _ | with_reducible assumption | with_reducible refine Gr.alloc ?_ _ | with_reducible refine Gr.drew ?_ | with_reducible refine Gr.drewN ?_ _ | with_reducible refine Gr.trans ?_ (by assumption))⟩
  · have ho : ovB i x y u v p q r f i' x' y' u' v' p' q' r' f' = decide (farV x y p q r x' y' p' q' r' < 0) := by simp [ovB, hv]
    have HO := Lib.hid ho; have HV := Lib.hid hv; clear ho hv
    generalize hz : farV x y p q r x' y' p' q' r' = z at HO
    have HZ := Lib.hid hz; clear hz
    go_enter Tryd.func20, Tryd.ntmps20
    go_wp2_with fail
    refine (far_yes i x y u v p q r f i' x' y' u' v' p' q' r' f' _ (HR.out.gr (((Gr.refl _).alloc _).alloc _)) HV.out).mono ?_
    rw [HZ.out]
    rintro e w1 ⟨rfl, hg⟩
    go_wp2
    all_goals
      go_ret
      exact ⟨ret_bool (by rw [HO.out]; first | done | rfl | simp [*]), by repeat (first | with_reducible exact Gr.refl _ | with_reducible assumption | with_reducible refine Gr.alloc ?_ _ | with_reducible refine Gr.drew ?_ | with_reducible refine Gr.drewN ?_ _ | with_reducible refine Gr.trans ?_ (by assumption))⟩

def meB (i x y u v p q : Int) (r f : Bool) (i' x' y' u' v' p' q' : Int) (r' f' : Bool) : Bool := bothB i x y u v p q r f i' x' y' u' v' p' q' r' f' && decide (farV x y p q r x' y' p' q' r' ≤ 0)
set_option maxHeartbeats 1000000 in
theorem Meet_any (i x y u v p q : Int) (r f : Bool) (i' x' y' u' v' p' q' : Int) (r' f' : Bool) (w : World) (hR : Rooms w) :
    Calls Tryd.prog 22 #[.agg #[.int .i64 i, .int .i64 x, .int .i64 y, .int .i64 u, .int .i64 v, .int .i64 p, .int .i64 q, .bool r, .bool f], .agg #[.int .i64 i', .int .i64 x', .int .i64 y', .int .i64 u', .int .i64 v', .int .i64 p', .int .i64 q', .bool r', .bool f']] w
      fun e w' => e = .returned (.bool (meB i x y u v p q r f i' x' y' u' v' p' q' r' f')) ∧ Gr w w' := by
  have HR := Lib.hid hR; clear hR
  cases hv : bothB i x y u v p q r f i' x' y' u' v' p' q' r' f'
  · have ho : meB i x y u v p q r f i' x' y' u' v' p' q' r' f' = false := by simp [meB, hv]
    have HO := Lib.hid ho; have HV := Lib.hid hv; clear ho hv
    go_enter Tryd.func22, Tryd.ntmps22
    go_wp2_with (go_at_call 36; ((with_reducible refine (far_no i x y u v p q r f i' x' y' u' v' p' q' r' f' _ HV.out).mono ?_); rintro e w1 ⟨rfl, hg⟩))
    go_ret
    exact ⟨ret_bool HO.out.symm, by repeat (first | with_reducible exact Gr.refl _ | with_reducible assumption | with_reducible refine Gr.alloc ?_ _ | with_reducible refine Gr.drew ?_ | with_reducible refine Gr.drewN ?_ _ | with_reducible refine Gr.trans ?_ (by assumption))⟩
  · have ho : meB i x y u v p q r f i' x' y' u' v' p' q' r' f' = decide (farV x y p q r x' y' p' q' r' ≤ 0) := by simp [meB, hv]
    have HO := Lib.hid ho; have HV := Lib.hid hv; clear ho hv
    generalize hz : farV x y p q r x' y' p' q' r' = z at HO
    have HZ := Lib.hid hz; clear hz
    go_enter Tryd.func22, Tryd.ntmps22
    go_wp2_with fail
    refine (far_yes i x y u v p q r f i' x' y' u' v' p' q' r' f' _ (HR.out.gr (((Gr.refl _).alloc _).alloc _)) HV.out).mono ?_
    rw [HZ.out]
    rintro e w1 ⟨rfl, hg⟩
    go_wp2
    all_goals
      go_ret
      exact ⟨ret_bool (by rw [HO.out]; first | done | rfl | simp [*]), by repeat (first | with_reducible exact Gr.refl _ | with_reducible assumption | with_reducible refine Gr.alloc ?_ _ | with_reducible refine Gr.drew ?_ | with_reducible refine Gr.drewN ?_ _ | with_reducible refine Gr.trans ?_ (by assumption))⟩

def toB (i x y u v p q : Int) (r f : Bool) (i' x' y' u' v' p' q' : Int) (r' f' : Bool) : Bool := bothB i x y u v p q r f i' x' y' u' v' p' q' r' f' && decide (farV x y p q r x' y' p' q' r' = 0)
set_option maxHeartbeats 1000000 in
theorem Touch_any (i x y u v p q : Int) (r f : Bool) (i' x' y' u' v' p' q' : Int) (r' f' : Bool) (w : World) (hR : Rooms w) :
    Calls Tryd.prog 21 #[.agg #[.int .i64 i, .int .i64 x, .int .i64 y, .int .i64 u, .int .i64 v, .int .i64 p, .int .i64 q, .bool r, .bool f], .agg #[.int .i64 i', .int .i64 x', .int .i64 y', .int .i64 u', .int .i64 v', .int .i64 p', .int .i64 q', .bool r', .bool f']] w
      fun e w' => e = .returned (.bool (toB i x y u v p q r f i' x' y' u' v' p' q' r' f')) ∧ Gr w w' := by
  have HR := Lib.hid hR; clear hR
  cases hv : bothB i x y u v p q r f i' x' y' u' v' p' q' r' f'
  · have ho : toB i x y u v p q r f i' x' y' u' v' p' q' r' f' = false := by simp [toB, hv]
    have HO := Lib.hid ho; have HV := Lib.hid hv; clear ho hv
    go_enter Tryd.func21, Tryd.ntmps21
    go_wp2_with (go_at_call 36; ((with_reducible refine (far_no i x y u v p q r f i' x' y' u' v' p' q' r' f' _ HV.out).mono ?_); rintro e w1 ⟨rfl, hg⟩))
    go_ret
    exact ⟨ret_bool HO.out.symm, by repeat (first | with_reducible exact Gr.refl _ | with_reducible assumption | with_reducible refine Gr.alloc ?_ _ | with_reducible refine Gr.drew ?_ | with_reducible refine Gr.drewN ?_ _ | with_reducible refine Gr.trans ?_ (by assumption))⟩
  · have ho : toB i x y u v p q r f i' x' y' u' v' p' q' r' f' = decide (farV x y p q r x' y' p' q' r' = 0) := by simp [toB, hv]
    have HO := Lib.hid ho; have HV := Lib.hid hv; clear ho hv
    generalize hz : farV x y p q r x' y' p' q' r' = z at HO
    have HZ := Lib.hid hz; clear hz
    go_enter Tryd.func21, Tryd.ntmps21
    go_wp2_with fail
    refine (far_yes i x y u v p q r f i' x' y' u' v' p' q' r' f' _ (HR.out.gr (((Gr.refl _).alloc _).alloc _)) HV.out).mono ?_
    rw [HZ.out]
    rintro e w1 ⟨rfl, hg⟩
    go_wp2
    all_goals
      go_ret
      exact ⟨ret_bool (by rw [HO.out]; first | done | rfl | simp [*]), by repeat (first | with_reducible exact Gr.refl _ | with_reducible assumption | with_reducible refine Gr.alloc ?_ _ | with_reducible refine Gr.drew ?_ | with_reducible refine Gr.drewN ?_ _ | with_reducible refine Gr.trans ?_ (by assumption))⟩
end Go.Proofs.YtggcfjeehpcclaaDoor
