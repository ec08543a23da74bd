/- The contract of the reference's Square. -/
import Derived.Test.YtggcfjeehpcclaaDoorC2
import Derived.Test.YtggcfjeehpcclaaDoorB2
namespace Go.Proofs.YtggcfjeehpcclaaDoor
open Go.RowKit

def farI (x l m : Int) : Int := if x < l then l - x else if m < x then x - m else 0
def bcV (x y p q x' y' p' : Int) : Int := farI x' (x - p) (x + p) * farI x' (x - p) (x + p) + farI y' (y - q) (y + q) * farI y' (y - q) (y + q) - p' * p'
def sqV (x y p q : Int) (r : Bool) (x' y' p' q' : Int) (r' : Bool) : Int :=
  if r then (if r' then (x - x') * (x - x') + (y - y') * (y - y') - (p + p') * (p + p') else bcV x' y' p' q' x y p)
  else (if r' then bcV x y p q x' y' p' else max (max (x - p) (x' - p') - min (x + p) (x' + p')) (max (y - q) (y' - q') - min (y + q) (y' + q')))
theorem farI_bd {x l m : Int} (hx : -4000000 ≤ x ∧ x ≤ 4000000) (hl : -1100000 ≤ l ∧ l ≤ 1100000) (hm : -1100000 ≤ m ∧ m ≤ 1100000) (hx' : -1100000 ≤ x ∧ x ≤ 1100000) : -3000000 ≤ farI x l m ∧ farI x l m ≤ 3000000 := by
  unfold farI; omega
theorem rfar_at (x l m X : Int) (w : World) (hx : -4000000 ≤ x ∧ x ≤ 4000000) (hl : -4000000 ≤ l ∧ l ≤ 4000000) (hh : -4000000 ≤ m ∧ m ≤ 4000000) (hX : Hid (farI x l m = X)) :
    Calls Tryd.prog 43 #[.int .i64 x, .int .i64 l, .int .i64 m] w fun e w' => e = .returned (.int .i64 X) ∧ w = w' := by
  have h := rfar_any x l m w hx hl hh
  rw [← hX.out]
  exact h

set_option maxHeartbeats 2000000 in
theorem rSq11 (i x y u v p q : Int) (f : Bool) (i' x' y' u' v' p' q' : Int) (f' : Bool) (w : World) (h1 : vldB i x y u v p q true f = true) (h2 : vldB i' x' y' u' v' p' q' true f' = true) :
    Calls Tryd.prog 39 #[.agg #[.int .i64 i, .int .i64 x, .int .i64 y, .int .i64 u, .int .i64 v, .int .i64 p, .int .i64 q, .bool true, .bool f], .agg #[.int .i64 i', .int .i64 x', .int .i64 y', .int .i64 u', .int .i64 v', .int .i64 p', .int .i64 q', .bool true, .bool f']] w
      fun e w' => e = .returned (.int .i64 ((x - x') * (x - x') + (y - y') * (y - y') - (p + p') * (p + p'))) ∧ Gr w w' := by
  obtain ⟨-, ⟨hx1, hx2⟩, ⟨hy1, hy2⟩, -, -, ⟨hp1, hp2⟩, ⟨hq1, hq2⟩, -, -⟩ := vldB_iff.1 h1
  obtain ⟨-, ⟨hx3, hx4⟩, ⟨hy3, hy4⟩, -, -, ⟨hp3, hp4⟩, ⟨hq3, hq4⟩, -, -⟩ := vldB_iff.1 h2
  obtain ⟨m11, m12⟩ := sq_small (n := x - x') (by omega) (by omega)
  obtain ⟨m21, m22⟩ := sq_small (n := y - y') (by omega) (by omega)
  obtain ⟨m31, m32⟩ := sq_small (n := p + p') (by omega) (by omega)
  clear h1 h2
  go_enter Tryd.func39, Tryd.ntmps39
  go_wp2_with fail
  have e1 : IntKind.i64.wrap (x - x') = x - x' := IntWalk.i64_in _ (by omega)
  have e2 : IntKind.i64.wrap (y - y') = y - y' := IntWalk.i64_in _ (by omega)
  go_quiet (fail)
  go_wp2
  go_ret
  exact ⟨rfl, by repeat (first | with_reducible exact Gr.refl _ | with_reducible assumption | with_reducible refine Gr.alloc ?_ _ | with_reducible refine Gr.drew ?_ | with_reducible refine Gr.drewN ?_ _ | with_reducible refine Gr.trans ?_ (by assumption))⟩

set_option maxHeartbeats 2000000 in
theorem rSq01 (i x y u v p q : Int) (f : Bool) (i' x' y' u' v' p' q' : Int) (f' : Bool) (w : World) (h1 : vldB i x y u v p q false f = true) (h2 : vldB i' x' y' u' v' p' q' true f' = true) :
    Calls Tryd.prog 39 #[.agg #[.int .i64 i, .int .i64 x, .int .i64 y, .int .i64 u, .int .i64 v, .int .i64 p, .int .i64 q, .bool false, .bool f], .agg #[.int .i64 i', .int .i64 x', .int .i64 y', .int .i64 u', .int .i64 v', .int .i64 p', .int .i64 q', .bool true, .bool f']] w
      fun e w' => e = .returned (.int .i64 (bcV x y p q x' y' p')) ∧ Gr w w' := by
  obtain ⟨-, ⟨hx1, hx2⟩, ⟨hy1, hy2⟩, -, -, ⟨hp1, hp2⟩, ⟨hq1, hq2⟩, -, -⟩ := vldB_iff.1 h1
  obtain ⟨-, ⟨hx3, hx4⟩, ⟨hy3, hy4⟩, -, -, ⟨hp3, hp4⟩, ⟨hq3, hq4⟩, -, -⟩ := vldB_iff.1 h2
  obtain ⟨k1, k2⟩ := farI_bd (x := x') (l := x - p) (m := x + p) (by omega) (by omega) (by omega) (by omega)
  obtain ⟨k3, k4⟩ := farI_bd (x := y') (l := y - q) (m := y + q) (by omega) (by omega) (by omega) (by omega)
  obtain ⟨m11, m12⟩ := sq_small k1 k2
  obtain ⟨m21, m22⟩ := sq_small k3 k4
  obtain ⟨m31, m32⟩ := sq_small (n := p') (by omega) (by omega)
  have hv : bcV x y p q x' y' p' = farI x' (x - p) (x + p) * farI x' (x - p) (x + p) + farI y' (y - q) (y + q) * farI y' (y - q) (y + q) - p' * p' := rfl
  generalize hX : farI x' (x - p) (x + p) = X at hv k1 k2 m11 m12
  generalize hY : farI y' (y - q) (y + q) = Y at hv k3 k4 m21 m22
  have HX := Lib.hid hX; have HY := Lib.hid hY; have HV := Lib.hid hv; clear hX hY hv
  clear h2
  go_enter Tryd.func39, Tryd.ntmps39
  go_wp2_with ((go_at_call 32; ((with_reducible refine (rBounds_yes i x y u v p q false f _ h1).mono ?_); rintro e w1 ⟨rfl, hg1⟩; have bB := hg1.blk (n := w.heap.size + 1) (cs := #[.int .i64 i', .int .i64 x', .int .i64 y', .int .i64 u', .int .i64 v', .int .i64 p', .int .i64 q', .bool true, .bool f']) (t := 25) (by repeat (first | with_reducible assumption | (with_reducible refine Blk.new ?_; simp; done) | with_reducible refine Blk.alloc ?_)); obtain ⟨aB, -⟩ := bB.facts; have lB := bB.lt; have lA : w.heap.size < w1.heap.size := Nat.lt_of_succ_lt lB)))
  clear h1
  go_quiet ((go_at_call 43; first
    | with_reducible exact quiet_same (rfar_at x' (x - p) (x + p) X _ (by omega) (by omega) (by omega) HX)
    | with_reducible exact quiet_same (rfar_at y' (y - q) (y + q) Y _ (by omega) (by omega) (by omega) HY)))
  go_wp2
  go_ret
  exact ⟨ret_int HV.out.symm, by repeat (first | with_reducible exact Gr.refl _ | with_reducible assumption | with_reducible refine Gr.alloc ?_ _ | with_reducible refine Gr.drew ?_ | with_reducible refine Gr.drewN ?_ _ | with_reducible refine Gr.trans ?_ (by assumption))⟩

set_option maxHeartbeats 2000000 in
theorem rSq10 (i x y u v p q : Int) (f : Bool) (i' x' y' u' v' p' q' : Int) (f' : Bool) (w : World) (h1 : vldB i x y u v p q true f = true) (h2 : vldB i' x' y' u' v' p' q' false f' = true) :
    Calls Tryd.prog 39 #[.agg #[.int .i64 i, .int .i64 x, .int .i64 y, .int .i64 u, .int .i64 v, .int .i64 p, .int .i64 q, .bool true, .bool f], .agg #[.int .i64 i', .int .i64 x', .int .i64 y', .int .i64 u', .int .i64 v', .int .i64 p', .int .i64 q', .bool false, .bool f']] w
      fun e w' => e = .returned (.int .i64 (bcV x' y' p' q' x y p)) ∧ Gr w w' := by
  obtain ⟨-, ⟨hx1, hx2⟩, ⟨hy1, hy2⟩, -, -, ⟨hp1, hp2⟩, ⟨hq1, hq2⟩, -, -⟩ := vldB_iff.1 h1
  obtain ⟨-, ⟨hx3, hx4⟩, ⟨hy3, hy4⟩, -, -, ⟨hp3, hp4⟩, ⟨hq3, hq4⟩, -, -⟩ := vldB_iff.1 h2
  clear hx1 hx2 hx3 hx4 hy1 hy2 hy3 hy4 hp1 hp2 hp3 hp4 hq1 hq2 hq3 hq4
  go_enter Tryd.func39, Tryd.ntmps39
  go_wp2_with (go_at_call 39; ((with_reducible refine (rSq01 i' x' y' u' v' p' q' f' i x y u v p q f _ h2 h1).mono ?_); rintro e w1 ⟨rfl, hg1⟩))
  go_ret
  exact ⟨rfl, by repeat (first | with_reducible exact Gr.refl _ | with_reducible assumption | with_reducible refine Gr.alloc ?_ _ | with_reducible refine Gr.drew ?_ | with_reducible refine Gr.drewN ?_ _ | with_reducible refine Gr.trans ?_ (by assumption))⟩

set_option maxHeartbeats 2000000 in
theorem rSq00 (i x y u v p q : Int) (f : Bool) (i' x' y' u' v' p' q' : Int) (f' : Bool) (w : World) (h1 : vldB i x y u v p q false f = true) (h2 : vldB i' x' y' u' v' p' q' false f' = true) :
    Calls Tryd.prog 39 #[.agg #[.int .i64 i, .int .i64 x, .int .i64 y, .int .i64 u, .int .i64 v, .int .i64 p, .int .i64 q, .bool false, .bool f], .agg #[.int .i64 i', .int .i64 x', .int .i64 y', .int .i64 u', .int .i64 v', .int .i64 p', .int .i64 q', .bool false, .bool f']] w
      fun e w' => e = .returned (.int .i64 (max (max (x - p) (x' - p') - min (x + p) (x' + p')) (max (y - q) (y' - q') - min (y + q) (y' + q')))) ∧ Gr w w' := by
  obtain ⟨-, ⟨hx1, hx2⟩, ⟨hy1, hy2⟩, -, -, ⟨hp1, hp2⟩, ⟨hq1, hq2⟩, -, -⟩ := vldB_iff.1 h1
  obtain ⟨-, ⟨hx3, hx4⟩, ⟨hy3, hy4⟩, -, -, ⟨hp3, hp4⟩, ⟨hq3, hq4⟩, -, -⟩ := vldB_iff.1 h2
  go_enter Tryd.func39, Tryd.ntmps39
  go_wp2_with ((go_at_call 32; first | ((with_reducible refine (rBounds_yes i x y u v p q false f _ h1).mono ?_); rintro e w1 ⟨rfl, hg1⟩; have bB := hg1.blk (n := w.heap.size + 1) (cs := #[.int .i64 i', .int .i64 x', .int .i64 y', .int .i64 u', .int .i64 v', .int .i64 p', .int .i64 q', .bool false, .bool f']) (t := 25) (by repeat (first | with_reducible assumption | (with_reducible refine Blk.new ?_; simp; done) | with_reducible refine Blk.alloc ?_)); obtain ⟨aB, -⟩ := bB.facts; have lB := bB.lt; have lA : w.heap.size < w1.heap.size := Nat.lt_of_succ_lt lB) | ((with_reducible refine (rBounds_yes i' x' y' u' v' p' q' false f' _ h2).mono ?_); rintro e w2 ⟨rfl, hg2⟩; have bL := hg2.blk (n := w1.heap.size) (cs := #[.int .i64 (x - p), .int .i64 (y - q)]) (t := 23) (by repeat (first | with_reducible assumption | (with_reducible refine Blk.new ?_; simp; done) | with_reducible refine Blk.alloc ?_)); have bH := hg2.blk (n := w1.heap.size + 1) (cs := #[.int .i64 (x + p), .int .i64 (y + q)]) (t := 23) (by repeat (first | with_reducible assumption | (with_reducible refine Blk.new ?_; simp; done) | with_reducible refine Blk.alloc ?_)); clear aB; obtain ⟨aL, -⟩ := bL.facts; obtain ⟨aH, -⟩ := bH.facts; have lL := bL.lt; have lH := bH.lt)))
  all_goals
    go_ret
    exact ⟨ret_int (by omega), by repeat (first | with_reducible exact Gr.refl _ | with_reducible assumption | with_reducible refine Gr.alloc ?_ _ | with_reducible refine Gr.drew ?_ | with_reducible refine Gr.drewN ?_ _ | with_reducible refine Gr.trans ?_ (by assumption))⟩
end Go.Proofs.YtggcfjeehpcclaaDoor
