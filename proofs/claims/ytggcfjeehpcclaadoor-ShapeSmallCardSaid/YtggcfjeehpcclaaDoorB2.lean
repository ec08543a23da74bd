/- The contract of shape.Has. -/
import Derived.Test.YtggcfjeehpcclaaDoorB1
namespace Go.Proofs.YtggcfjeehpcclaaDoor
open Go.RowKit

def hasB (i x y u v p q : Int) (r f : Bool) (px py : Int) : Bool :=
  vldB i x y u v p q r f && allIn (x - p) (x + p) [px] && allIn (y - q) (y + q) [py] && (!r || decide ((px - x) * (px - x) + (py - y) * (py - y) ≤ p * p))

theorem allIn1 {lo hi x : Int} : allIn lo hi [x] = true ↔ lo ≤ x ∧ x ≤ hi := by simp [allIn]
theorem sq_small {n : Int} (h1 : -3000000 ≤ n) (h2 : n ≤ 3000000) : 0 ≤ n * n ∧ n * n ≤ 9000000000000 := by
  rcases Int.le_total 0 n with h | h
  · exact ⟨Int.mul_nonneg h h, Int.le_trans (Int.mul_le_mul (c := 3000000) (d := 3000000) h2 h2 h (by omega)) (by decide)⟩
  · have e : n * n = (-n) * (-n) := (Int.neg_mul_neg n n).symm
    rw [e]
    exact ⟨Int.mul_nonneg (by omega) (by omega), Int.le_trans (Int.mul_le_mul (c := 3000000) (d := 3000000) (by omega) (by omega) (by omega) (by omega)) (by decide)⟩

set_option maxHeartbeats 1000000 in
theorem Has_no1 (i x y u v p q : Int) (r f : Bool) (px py : Int) (w : World) (h1 : vldB i x y u v p q r f = false) :
    Calls Tryd.prog 26 #[.agg #[.int .i64 i, .int .i64 x, .int .i64 y, .int .i64 u, .int .i64 v, .int .i64 p, .int .i64 q, .bool r, .bool f], .agg #[.int .i64 px, .int .i64 py]] w
      fun e w' => e = .returned (.bool (hasB i x y u v p q r f px py)) ∧ Gr w w' := by
  have hv : hasB i x y u v p q r f px py = false := by simp [hasB, h1]
  have HV := Lib.hid hv; clear hv
  go_enter Tryd.func26, Tryd.ntmps26
  go_wp2_with (first
    | (go_at_call 27; ((with_reducible refine (Bounds_no i x y u v p q r f _ h1).mono ?_); rintro e w1 ⟨rfl, hg1⟩; have bA := hg1.blk (n := w.heap.size) (cs := #[.int .i64 i, .int .i64 x, .int .i64 y, .int .i64 u, .int .i64 v, .int .i64 p, .int .i64 q, .bool r, .bool f]) (t := 25) (by repeat (first | with_reducible assumption | (with_reducible refine Blk.new ?_; simp; done) | with_reducible refine Blk.alloc ?_)); have bP := hg1.blk (n := w.heap.size + 1) (cs := #[.int .i64 px, .int .i64 py]) (t := 23) (by repeat (first | with_reducible assumption | (with_reducible refine Blk.new ?_; simp; done) | with_reducible refine Blk.alloc ?_)); obtain ⟨aA, fA⟩ := bA.facts; have lA := bA.lt; have lP := bP.lt))
    | (go_at_call 28; ((with_reducible refine (Valid_any i x y u v p q r f _).mono ?_); rintro e w2 ⟨rfl, hg2⟩; have bP2 := hg2.blk (n := w.heap.size + 1) (cs := #[.int .i64 px, .int .i64 py]) (t := 23) (by repeat (first | with_reducible assumption | (with_reducible refine Blk.new ?_; simp; done) | with_reducible refine Blk.alloc ?_)); have bA2 := hg2.blk (n := w.heap.size) (cs := #[.int .i64 i, .int .i64 x, .int .i64 y, .int .i64 u, .int .i64 v, .int .i64 p, .int .i64 q, .bool r, .bool f]) (t := 25) (by repeat (first | with_reducible assumption | (with_reducible refine Blk.new ?_; simp; done) | with_reducible refine Blk.alloc ?_)); have bL := hg2.blk (n := w1.heap.size) (cs := #[.int .i64 (0), .int .i64 (0)]) (t := 23) (by repeat (first | with_reducible assumption | (with_reducible refine Blk.new ?_; simp; done) | with_reducible refine Blk.alloc ?_)); have bH := hg2.blk (n := w1.heap.size + 1) (cs := #[.int .i64 (0), .int .i64 (0)]) (t := 23) (by repeat (first | with_reducible assumption | (with_reducible refine Blk.new ?_; simp; done) | with_reducible refine Blk.alloc ?_)); clear aA fA; obtain ⟨aA2, -⟩ := bA2.facts; obtain ⟨aP2, -⟩ := bP2.facts; obtain ⟨aL, -⟩ := bL.facts; obtain ⟨aH, -⟩ := bH.facts; have lP2 := bP2.lt; have lA2 := bA2.lt; have lL := bL.lt; have lH := bH.lt))
    | (go_at_call 37; first | ((with_reducible refine (between1 (x - p) (x + p) px _ _ _ ?_).mono ?_); (exact new1 (by simp)); rintro e w3 ⟨rfl, rfl⟩) | ((with_reducible refine (between1 (y - q) (y + q) py _ _ _ ?_).mono ?_); (exact new1 (by simp)); rintro e w3 ⟨rfl, rfl⟩)))
  go_ret
  exact ⟨ret_bool HV.out.symm, by repeat (first | with_reducible exact Gr.refl _ | with_reducible assumption | with_reducible refine Gr.alloc ?_ _ | with_reducible refine Gr.drew ?_ | with_reducible refine Gr.drewN ?_ _ | with_reducible refine Gr.trans ?_ (by assumption))⟩

set_option maxHeartbeats 1000000 in
theorem Has_no2 (i x y u v p q : Int) (r f : Bool) (px py : Int) (w : World) (h1 : vldB i x y u v p q r f = true) (h2 : allIn (x - p) (x + p) [px] = false) :
    Calls Tryd.prog 26 #[.agg #[.int .i64 i, .int .i64 x, .int .i64 y, .int .i64 u, .int .i64 v, .int .i64 p, .int .i64 q, .bool r, .bool f], .agg #[.int .i64 px, .int .i64 py]] w
      fun e w' => e = .returned (.bool (hasB i x y u v p q r f px py)) ∧ Gr w w' := by
  have hv : hasB i x y u v p q r f px py = false := by simp [hasB, h1, h2]
  have HV := Lib.hid hv; clear hv
  go_enter Tryd.func26, Tryd.ntmps26
  go_wp2_with (first
    | (go_at_call 27; ((with_reducible refine (Bounds_yes i x y u v p q r f _ h1).mono ?_); rintro e w1 ⟨rfl, hg1⟩; have bA := hg1.blk (n := w.heap.size) (cs := #[.int .i64 i, .int .i64 x, .int .i64 y, .int .i64 u, .int .i64 v, .int .i64 p, .int .i64 q, .bool r, .bool f]) (t := 25) (by repeat (first | with_reducible assumption | (with_reducible refine Blk.new ?_; simp; done) | with_reducible refine Blk.alloc ?_)); have bP := hg1.blk (n := w.heap.size + 1) (cs := #[.int .i64 px, .int .i64 py]) (t := 23) (by repeat (first | with_reducible assumption | (with_reducible refine Blk.new ?_; simp; done) | with_reducible refine Blk.alloc ?_)); obtain ⟨aA, fA⟩ := bA.facts; have lA := bA.lt; have lP := bP.lt))
    | (go_at_call 28; ((with_reducible refine (Valid_any i x y u v p q r f _).mono ?_); rintro e w2 ⟨rfl, hg2⟩; have bP2 := hg2.blk (n := w.heap.size + 1) (cs := #[.int .i64 px, .int .i64 py]) (t := 23) (by repeat (first | with_reducible assumption | (with_reducible refine Blk.new ?_; simp; done) | with_reducible refine Blk.alloc ?_)); have bA2 := hg2.blk (n := w.heap.size) (cs := #[.int .i64 i, .int .i64 x, .int .i64 y, .int .i64 u, .int .i64 v, .int .i64 p, .int .i64 q, .bool r, .bool f]) (t := 25) (by repeat (first | with_reducible assumption | (with_reducible refine Blk.new ?_; simp; done) | with_reducible refine Blk.alloc ?_)); have bL := hg2.blk (n := w1.heap.size) (cs := #[.int .i64 (x - p), .int .i64 (y - q)]) (t := 23) (by repeat (first | with_reducible assumption | (with_reducible refine Blk.new ?_; simp; done) | with_reducible refine Blk.alloc ?_)); have bH := hg2.blk (n := w1.heap.size + 1) (cs := #[.int .i64 (x + p), .int .i64 (y + q)]) (t := 23) (by repeat (first | with_reducible assumption | (with_reducible refine Blk.new ?_; simp; done) | with_reducible refine Blk.alloc ?_)); clear aA fA; obtain ⟨aA2, -⟩ := bA2.facts; obtain ⟨aP2, -⟩ := bP2.facts; obtain ⟨aL, -⟩ := bL.facts; obtain ⟨aH, -⟩ := bH.facts; have lP2 := bP2.lt; have lA2 := bA2.lt; have lL := bL.lt; have lH := bH.lt))
    | (go_at_call 37; first | ((with_reducible refine (between1 (x - p) (x + p) px _ _ _ ?_).mono ?_); (exact new1 (by simp)); rintro e w3 ⟨rfl, rfl⟩) | ((with_reducible refine (between1 (y - q) (y + q) py _ _ _ ?_).mono ?_); (exact new1 (by simp)); rintro e w3 ⟨rfl, rfl⟩)))
  go_ret
  exact ⟨ret_bool HV.out.symm, by repeat (first | with_reducible exact Gr.refl _ | with_reducible assumption | with_reducible refine Gr.alloc ?_ _ | with_reducible refine Gr.drew ?_ | with_reducible refine Gr.drewN ?_ _ | with_reducible refine Gr.trans ?_ (by assumption))⟩

set_option maxHeartbeats 1000000 in
theorem Has_no3 (i x y u v p q : Int) (r f : Bool) (px py : Int) (w : World) (h1 : vldB i x y u v p q r f = true) (h2 : allIn (x - p) (x + p) [px] = true) (h3 : allIn (y - q) (y + q) [py] = false) :
    Calls Tryd.prog 26 #[.agg #[.int .i64 i, .int .i64 x, .int .i64 y, .int .i64 u, .int .i64 v, .int .i64 p, .int .i64 q, .bool r, .bool f], .agg #[.int .i64 px, .int .i64 py]] w
      fun e w' => e = .returned (.bool (hasB i x y u v p q r f px py)) ∧ Gr w w' := by
  have hv : hasB i x y u v p q r f px py = false := by simp [hasB, h1, h2, h3]
  have HV := Lib.hid hv; clear hv
  go_enter Tryd.func26, Tryd.ntmps26
  go_wp2_with (first
    | (go_at_call 27; ((with_reducible refine (Bounds_yes i x y u v p q r f _ h1).mono ?_); rintro e w1 ⟨rfl, hg1⟩; have bA := hg1.blk (n := w.heap.size) (cs := #[.int .i64 i, .int .i64 x, .int .i64 y, .int .i64 u, .int .i64 v, .int .i64 p, .int .i64 q, .bool r, .bool f]) (t := 25) (by repeat (first | with_reducible assumption | (with_reducible refine Blk.new ?_; simp; done) | with_reducible refine Blk.alloc ?_)); have bP := hg1.blk (n := w.heap.size + 1) (cs := #[.int .i64 px, .int .i64 py]) (t := 23) (by repeat (first | with_reducible assumption | (with_reducible refine Blk.new ?_; simp; done) | with_reducible refine Blk.alloc ?_)); obtain ⟨aA, fA⟩ := bA.facts; have lA := bA.lt; have lP := bP.lt))
    | (go_at_call 28; ((with_reducible refine (Valid_any i x y u v p q r f _).mono ?_); rintro e w2 ⟨rfl, hg2⟩; have bP2 := hg2.blk (n := w.heap.size + 1) (cs := #[.int .i64 px, .int .i64 py]) (t := 23) (by repeat (first | with_reducible assumption | (with_reducible refine Blk.new ?_; simp; done) | with_reducible refine Blk.alloc ?_)); have bA2 := hg2.blk (n := w.heap.size) (cs := #[.int .i64 i, .int .i64 x, .int .i64 y, .int .i64 u, .int .i64 v, .int .i64 p, .int .i64 q, .bool r, .bool f]) (t := 25) (by repeat (first | with_reducible assumption | (with_reducible refine Blk.new ?_; simp; done) | with_reducible refine Blk.alloc ?_)); have bL := hg2.blk (n := w1.heap.size) (cs := #[.int .i64 (x - p), .int .i64 (y - q)]) (t := 23) (by repeat (first | with_reducible assumption | (with_reducible refine Blk.new ?_; simp; done) | with_reducible refine Blk.alloc ?_)); have bH := hg2.blk (n := w1.heap.size + 1) (cs := #[.int .i64 (x + p), .int .i64 (y + q)]) (t := 23) (by repeat (first | with_reducible assumption | (with_reducible refine Blk.new ?_; simp; done) | with_reducible refine Blk.alloc ?_)); clear aA fA; obtain ⟨aA2, -⟩ := bA2.facts; obtain ⟨aP2, -⟩ := bP2.facts; obtain ⟨aL, -⟩ := bL.facts; obtain ⟨aH, -⟩ := bH.facts; have lP2 := bP2.lt; have lA2 := bA2.lt; have lL := bL.lt; have lH := bH.lt))
    | (go_at_call 37; first | ((with_reducible refine (between1 (x - p) (x + p) px _ _ _ ?_).mono ?_); (exact new1 (by simp)); rintro e w3 ⟨rfl, rfl⟩) | ((with_reducible refine (between1 (y - q) (y + q) py _ _ _ ?_).mono ?_); (exact new1 (by simp)); rintro e w3 ⟨rfl, rfl⟩)))
  go_ret
  exact ⟨ret_bool HV.out.symm, by repeat (first | with_reducible exact Gr.refl _ | with_reducible assumption | with_reducible refine Gr.alloc ?_ _ | with_reducible refine Gr.drew ?_ | with_reducible refine Gr.drewN ?_ _ | with_reducible refine Gr.trans ?_ (by assumption))⟩

set_option maxHeartbeats 2000000 in
theorem Has_yes0 (i x y u v p q : Int) (f : Bool) (px py : Int) (w : World) (h1 : vldB i x y u v p q false f = true) (h2 : allIn (x - p) (x + p) [px] = true) (h3 : allIn (y - q) (y + q) [py] = true) :
    Calls Tryd.prog 26 #[.agg #[.int .i64 i, .int .i64 x, .int .i64 y, .int .i64 u, .int .i64 v, .int .i64 p, .int .i64 q, .bool false, .bool f], .agg #[.int .i64 px, .int .i64 py]] w
      fun e w' => e = .returned (.bool (hasB i x y u v p q false f px py)) ∧ Gr w w' := by
  have hv : hasB i x y u v p q false f px py = true := by simp [hasB, h1, h2, h3]
  have HV := Lib.hid hv; clear hv
  go_enter Tryd.func26, Tryd.ntmps26
  go_wp2_with (first
    | (go_at_call 27; ((with_reducible refine (Bounds_yes i x y u v p q false f _ h1).mono ?_); rintro e w1 ⟨rfl, hg1⟩; have bA := hg1.blk (n := w.heap.size) (cs := #[.int .i64 i, .int .i64 x, .int .i64 y, .int .i64 u, .int .i64 v, .int .i64 p, .int .i64 q, .bool false, .bool f]) (t := 25) (by repeat (first | with_reducible assumption | (with_reducible refine Blk.new ?_; simp; done) | with_reducible refine Blk.alloc ?_)); have bP := hg1.blk (n := w.heap.size + 1) (cs := #[.int .i64 px, .int .i64 py]) (t := 23) (by repeat (first | with_reducible assumption | (with_reducible refine Blk.new ?_; simp; done) | with_reducible refine Blk.alloc ?_)); obtain ⟨aA, fA⟩ := bA.facts; have lA := bA.lt; have lP := bP.lt))
    | (go_at_call 28; ((with_reducible refine (Valid_any i x y u v p q false f _).mono ?_); rintro e w2 ⟨rfl, hg2⟩; have bP2 := hg2.blk (n := w.heap.size + 1) (cs := #[.int .i64 px, .int .i64 py]) (t := 23) (by repeat (first | with_reducible assumption | (with_reducible refine Blk.new ?_; simp; done) | with_reducible refine Blk.alloc ?_)); have bA2 := hg2.blk (n := w.heap.size) (cs := #[.int .i64 i, .int .i64 x, .int .i64 y, .int .i64 u, .int .i64 v, .int .i64 p, .int .i64 q, .bool false, .bool f]) (t := 25) (by repeat (first | with_reducible assumption | (with_reducible refine Blk.new ?_; simp; done) | with_reducible refine Blk.alloc ?_)); have bL := hg2.blk (n := w1.heap.size) (cs := #[.int .i64 (x - p), .int .i64 (y - q)]) (t := 23) (by repeat (first | with_reducible assumption | (with_reducible refine Blk.new ?_; simp; done) | with_reducible refine Blk.alloc ?_)); have bH := hg2.blk (n := w1.heap.size + 1) (cs := #[.int .i64 (x + p), .int .i64 (y + q)]) (t := 23) (by repeat (first | with_reducible assumption | (with_reducible refine Blk.new ?_; simp; done) | with_reducible refine Blk.alloc ?_)); clear aA fA; obtain ⟨aA2, -⟩ := bA2.facts; obtain ⟨aP2, -⟩ := bP2.facts; obtain ⟨aL, -⟩ := bL.facts; obtain ⟨aH, -⟩ := bH.facts; have lP2 := bP2.lt; have lA2 := bA2.lt; have lL := bL.lt; have lH := bH.lt))
    | (go_at_call 37; first | ((with_reducible refine (between1 (x - p) (x + p) px _ _ _ ?_).mono ?_); (exact new1 (by simp)); rintro e w3 ⟨rfl, rfl⟩) | ((with_reducible refine (between1 (y - q) (y + q) py _ _ _ ?_).mono ?_); (exact new1 (by simp)); rintro e w3 ⟨rfl, rfl⟩)))
  go_quiet (fail)
  go_wp2
  all_goals
    go_ret
    exact ⟨ret_bool (by rw [HV.out]), by repeat (first | with_reducible exact Gr.refl _ | with_reducible assumption | with_reducible refine Gr.alloc ?_ _ | with_reducible refine Gr.drew ?_ | with_reducible refine Gr.drewN ?_ _ | with_reducible refine Gr.trans ?_ (by assumption))⟩

set_option maxHeartbeats 2000000 in
theorem Has_yes1 (i x y u v p q : Int) (f : Bool) (px py : Int) (w : World) (h1 : vldB i x y u v p q true f = true) (h2 : allIn (x - p) (x + p) [px] = true) (h3 : allIn (y - q) (y + q) [py] = true) :
    Calls Tryd.prog 26 #[.agg #[.int .i64 i, .int .i64 x, .int .i64 y, .int .i64 u, .int .i64 v, .int .i64 p, .int .i64 q, .bool true, .bool f], .agg #[.int .i64 px, .int .i64 py]] w
      fun e w' => e = .returned (.bool (hasB i x y u v p q true f px py)) ∧ Gr w w' := by
  have hv : hasB i x y u v p q true f px py = decide ((px - x) * (px - x) + (py - y) * (py - y) ≤ p * p) := by simp [hasB, h1, h2, h3]
  have HV := Lib.hid hv; clear hv
  obtain ⟨-, ⟨hx1, hx2⟩, ⟨hy1, hy2⟩, -, -, ⟨hp1, hp2⟩, ⟨hq1, hq2⟩, -, -⟩ := vldB_iff.1 h1
  obtain ⟨ha1, ha2⟩ := allIn1.1 h2
  obtain ⟨hb1, hb2⟩ := allIn1.1 h3
  have m1 := sq_small (n := px - x) (by omega) (by omega)
  have m2 := sq_small (n := py - y) (by omega) (by omega)
  have m3 := sq_small (n := p) (by omega) (by omega)
  go_enter Tryd.func26, Tryd.ntmps26
  go_wp2_with (first
    | (go_at_call 27; ((with_reducible refine (Bounds_yes i x y u v p q true f _ h1).mono ?_); rintro e w1 ⟨rfl, hg1⟩; have bA := hg1.blk (n := w.heap.size) (cs := #[.int .i64 i, .int .i64 x, .int .i64 y, .int .i64 u, .int .i64 v, .int .i64 p, .int .i64 q, .bool true, .bool f]) (t := 25) (by repeat (first | with_reducible assumption | (with_reducible refine Blk.new ?_; simp; done) | with_reducible refine Blk.alloc ?_)); have bP := hg1.blk (n := w.heap.size + 1) (cs := #[.int .i64 px, .int .i64 py]) (t := 23) (by repeat (first | with_reducible assumption | (with_reducible refine Blk.new ?_; simp; done) | with_reducible refine Blk.alloc ?_)); obtain ⟨aA, fA⟩ := bA.facts; have lA := bA.lt; have lP := bP.lt))
    | (go_at_call 28; ((with_reducible refine (Valid_any i x y u v p q true f _).mono ?_); rintro e w2 ⟨rfl, hg2⟩; have bP2 := hg2.blk (n := w.heap.size + 1) (cs := #[.int .i64 px, .int .i64 py]) (t := 23) (by repeat (first | with_reducible assumption | (with_reducible refine Blk.new ?_; simp; done) | with_reducible refine Blk.alloc ?_)); have bA2 := hg2.blk (n := w.heap.size) (cs := #[.int .i64 i, .int .i64 x, .int .i64 y, .int .i64 u, .int .i64 v, .int .i64 p, .int .i64 q, .bool true, .bool f]) (t := 25) (by repeat (first | with_reducible assumption | (with_reducible refine Blk.new ?_; simp; done) | with_reducible refine Blk.alloc ?_)); have bL := hg2.blk (n := w1.heap.size) (cs := #[.int .i64 (x - p), .int .i64 (y - q)]) (t := 23) (by repeat (first | with_reducible assumption | (with_reducible refine Blk.new ?_; simp; done) | with_reducible refine Blk.alloc ?_)); have bH := hg2.blk (n := w1.heap.size + 1) (cs := #[.int .i64 (x + p), .int .i64 (y + q)]) (t := 23) (by repeat (first | with_reducible assumption | (with_reducible refine Blk.new ?_; simp; done) | with_reducible refine Blk.alloc ?_)); clear aA fA; obtain ⟨aA2, -⟩ := bA2.facts; obtain ⟨aP2, -⟩ := bP2.facts; obtain ⟨aL, -⟩ := bL.facts; obtain ⟨aH, -⟩ := bH.facts; have lP2 := bP2.lt; have lA2 := bA2.lt; have lL := bL.lt; have lH := bH.lt))
    | (go_at_call 37; first | ((with_reducible refine (between1 (x - p) (x + p) px _ _ _ ?_).mono ?_); (exact new1 (by simp)); rintro e w3 ⟨rfl, rfl⟩) | ((with_reducible refine (between1 (y - q) (y + q) py _ _ _ ?_).mono ?_); (exact new1 (by simp)); rintro e w3 ⟨rfl, rfl⟩)))
  have e1 : IntKind.i64.wrap (px - x) = px - x := IntWalk.i64_in _ (by omega)
  have e2 : IntKind.i64.wrap (py - y) = py - y := IntWalk.i64_in _ (by omega)
  have e3 : IntKind.i64.wrap (p * p) = p * p := IntWalk.i64_in _ (by omega)
  go_quiet ((go_at_call 38; exact quiet_same (square_any (px - x) (py - y) _ (by omega) (by omega) (by omega) (by omega))))
  go_wp2
  all_goals
    go_ret
    exact ⟨ret_bool (by rw [HV.out]), by repeat (first | with_reducible exact Gr.refl _ | with_reducible assumption | with_reducible refine Gr.alloc ?_ _ | with_reducible refine Gr.drew ?_ | with_reducible refine Gr.drewN ?_ _ | with_reducible refine Gr.trans ?_ (by assumption))⟩

theorem Has_any (i x y u v p q : Int) (r f : Bool) (px py : Int) (w : World) :
    Calls Tryd.prog 26 #[.agg #[.int .i64 i, .int .i64 x, .int .i64 y, .int .i64 u, .int .i64 v, .int .i64 p, .int .i64 q, .bool r, .bool f], .agg #[.int .i64 px, .int .i64 py]] w
      fun e w' => e = .returned (.bool (hasB i x y u v p q r f px py)) ∧ Gr w w' := by
  cases h1 : vldB i x y u v p q r f
  · exact Has_no1 i x y u v p q r f px py w h1
  cases h2 : allIn (x - p) (x + p) [px]
  · exact Has_no2 i x y u v p q r f px py w h1 h2
  cases h3 : allIn (y - q) (y + q) [py]
  · exact Has_no3 i x y u v p q r f px py w h1 h2 h3
  cases r
  · exact Has_yes0 i x y u v p q f px py w h1 h2 h3
  · exact Has_yes1 i x y u v p q f px py w h1 h2 h3
end Go.Proofs.YtggcfjeehpcclaaDoor
