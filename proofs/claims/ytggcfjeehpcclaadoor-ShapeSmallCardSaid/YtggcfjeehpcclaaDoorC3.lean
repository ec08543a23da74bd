/- The contract of the reference's Has. -/
import Derived.Test.YtggcfjeehpcclaaDoorC2
import Derived.Test.YtggcfjeehpcclaaDoorB2
namespace Go.Proofs.YtggcfjeehpcclaaDoor
open Go.RowKit

set_option maxHeartbeats 1000000 in
theorem rHas_no1 (i x y u v p q : Int) (r f : Bool) (px py : Int) (w : World) (h1 : vldB i x y u v p q r f = false) :
    Calls Tryd.prog 34 #[.agg #[.int .i64 i, .int .i64 x, .int .i64 y, .int .i64 u, .int .i64 v, .int .i64 p, .int .i64 q, .bool r, .bool f], .agg #[.int .i64 px, .int .i64 py]] w
      fun e w' => e = .returned (.bool (hasB i x y u v p q r f px py)) ∧ Gr w w' := by
  have hv : hasB i x y u v p q r f px py = false := by simp [hasB, h1]
  have HV := Lib.hid hv; clear hv
  go_enter Tryd.func34, Tryd.ntmps34
  go_wp2_with (first
    | (go_at_call 32; ((with_reducible refine (rBounds_no i x y u v p q r f _ h1).mono ?_); rintro e w1 ⟨rfl, hg1⟩; have bA := hg1.blk (n := w.heap.size) (cs := #[.int .i64 i, .int .i64 x, .int .i64 y, .int .i64 u, .int .i64 v, .int .i64 p, .int .i64 q, .bool r, .bool f]) (t := 25) (by repeat (first | with_reducible assumption | (with_reducible refine Blk.new ?_; simp; done) | with_reducible refine Blk.alloc ?_)); have bP := hg1.blk (n := w.heap.size + 1) (cs := #[.int .i64 px, .int .i64 py]) (t := 23) (by repeat (first | with_reducible assumption | (with_reducible refine Blk.new ?_; simp; done) | with_reducible refine Blk.alloc ?_)); obtain ⟨aA, fA⟩ := bA.facts; have lA := bA.lt; have lP := bP.lt))
    | (go_at_call 33; ((with_reducible refine (rValid_any i x y u v p q r f _).mono ?_); rintro e w2 ⟨rfl, hg2⟩; have bP2 := hg2.blk (n := w.heap.size + 1) (cs := #[.int .i64 px, .int .i64 py]) (t := 23) (by repeat (first | with_reducible assumption | (with_reducible refine Blk.new ?_; simp; done) | with_reducible refine Blk.alloc ?_)); have bA2 := hg2.blk (n := w.heap.size) (cs := #[.int .i64 i, .int .i64 x, .int .i64 y, .int .i64 u, .int .i64 v, .int .i64 p, .int .i64 q, .bool r, .bool f]) (t := 25) (by repeat (first | with_reducible assumption | (with_reducible refine Blk.new ?_; simp; done) | with_reducible refine Blk.alloc ?_)); have bL := hg2.blk (n := w1.heap.size) (cs := #[.int .i64 (0), .int .i64 (0)]) (t := 23) (by repeat (first | with_reducible assumption | (with_reducible refine Blk.new ?_; simp; done) | with_reducible refine Blk.alloc ?_)); have bH := hg2.blk (n := w1.heap.size + 1) (cs := #[.int .i64 (0), .int .i64 (0)]) (t := 23) (by repeat (first | with_reducible assumption | (with_reducible refine Blk.new ?_; simp; done) | with_reducible refine Blk.alloc ?_)); clear aA fA; obtain ⟨aA2, -⟩ := bA2.facts; obtain ⟨aP2, -⟩ := bP2.facts; obtain ⟨aL, -⟩ := bL.facts; obtain ⟨aH, -⟩ := bH.facts)))
  go_ret
  exact ⟨ret_bool HV.out.symm, by repeat (first | with_reducible exact Gr.refl _ | with_reducible assumption | with_reducible refine Gr.alloc ?_ _ | with_reducible refine Gr.drew ?_ | with_reducible refine Gr.drewN ?_ _ | with_reducible refine Gr.trans ?_ (by assumption))⟩

set_option maxHeartbeats 1000000 in
theorem rHas_out0 (i x y u v p q : Int) (r f : Bool) (px py : Int) (w : World) (h1 : vldB i x y u v p q r f = true) (h2 : px < x - p) :
    Calls Tryd.prog 34 #[.agg #[.int .i64 i, .int .i64 x, .int .i64 y, .int .i64 u, .int .i64 v, .int .i64 p, .int .i64 q, .bool r, .bool f], .agg #[.int .i64 px, .int .i64 py]] w
      fun e w' => e = .returned (.bool (hasB i x y u v p q r f px py)) ∧ Gr w w' := by
  have ha : allIn (x - p) (x + p) [px] = false := by rw [Bool.eq_false_iff]; intro hh; have := allIn1.1 hh; omega
  have hv : hasB i x y u v p q r f px py = false := by simp [hasB, ha]
  have HV := Lib.hid hv; clear hv ha
  go_enter Tryd.func34, Tryd.ntmps34
  go_wp2_with (first
    | (go_at_call 32; ((with_reducible refine (rBounds_yes i x y u v p q r f _ h1).mono ?_); rintro e w1 ⟨rfl, hg1⟩; have bA := hg1.blk (n := w.heap.size) (cs := #[.int .i64 i, .int .i64 x, .int .i64 y, .int .i64 u, .int .i64 v, .int .i64 p, .int .i64 q, .bool r, .bool f]) (t := 25) (by repeat (first | with_reducible assumption | (with_reducible refine Blk.new ?_; simp; done) | with_reducible refine Blk.alloc ?_)); have bP := hg1.blk (n := w.heap.size + 1) (cs := #[.int .i64 px, .int .i64 py]) (t := 23) (by repeat (first | with_reducible assumption | (with_reducible refine Blk.new ?_; simp; done) | with_reducible refine Blk.alloc ?_)); obtain ⟨aA, fA⟩ := bA.facts; have lA := bA.lt; have lP := bP.lt))
    | (go_at_call 33; ((with_reducible refine (rValid_any i x y u v p q r f _).mono ?_); rintro e w2 ⟨rfl, hg2⟩; have bP2 := hg2.blk (n := w.heap.size + 1) (cs := #[.int .i64 px, .int .i64 py]) (t := 23) (by repeat (first | with_reducible assumption | (with_reducible refine Blk.new ?_; simp; done) | with_reducible refine Blk.alloc ?_)); have bA2 := hg2.blk (n := w.heap.size) (cs := #[.int .i64 i, .int .i64 x, .int .i64 y, .int .i64 u, .int .i64 v, .int .i64 p, .int .i64 q, .bool r, .bool f]) (t := 25) (by repeat (first | with_reducible assumption | (with_reducible refine Blk.new ?_; simp; done) | with_reducible refine Blk.alloc ?_)); have bL := hg2.blk (n := w1.heap.size) (cs := #[.int .i64 (x - p), .int .i64 (y - q)]) (t := 23) (by repeat (first | with_reducible assumption | (with_reducible refine Blk.new ?_; simp; done) | with_reducible refine Blk.alloc ?_)); have bH := hg2.blk (n := w1.heap.size + 1) (cs := #[.int .i64 (x + p), .int .i64 (y + q)]) (t := 23) (by repeat (first | with_reducible assumption | (with_reducible refine Blk.new ?_; simp; done) | with_reducible refine Blk.alloc ?_)); clear aA fA; obtain ⟨aA2, -⟩ := bA2.facts; obtain ⟨aP2, -⟩ := bP2.facts; obtain ⟨aL, -⟩ := bL.facts; obtain ⟨aH, -⟩ := bH.facts)))
  go_ret
  exact ⟨ret_bool HV.out.symm, by repeat (first | with_reducible exact Gr.refl _ | with_reducible assumption | with_reducible refine Gr.alloc ?_ _ | with_reducible refine Gr.drew ?_ | with_reducible refine Gr.drewN ?_ _ | with_reducible refine Gr.trans ?_ (by assumption))⟩

set_option maxHeartbeats 1000000 in
theorem rHas_out1 (i x y u v p q : Int) (r f : Bool) (px py : Int) (w : World) (h1 : vldB i x y u v p q r f = true) (h2 : x - p ≤ px) (h3 : x + p < px) :
    Calls Tryd.prog 34 #[.agg #[.int .i64 i, .int .i64 x, .int .i64 y, .int .i64 u, .int .i64 v, .int .i64 p, .int .i64 q, .bool r, .bool f], .agg #[.int .i64 px, .int .i64 py]] w
      fun e w' => e = .returned (.bool (hasB i x y u v p q r f px py)) ∧ Gr w w' := by
  have ha : allIn (x - p) (x + p) [px] = false := by rw [Bool.eq_false_iff]; intro hh; have := allIn1.1 hh; omega
  have hv : hasB i x y u v p q r f px py = false := by simp [hasB, ha]
  have HV := Lib.hid hv; clear hv ha
  go_enter Tryd.func34, Tryd.ntmps34
  go_wp2_with (first
    | (go_at_call 32; ((with_reducible refine (rBounds_yes i x y u v p q r f _ h1).mono ?_); rintro e w1 ⟨rfl, hg1⟩; have bA := hg1.blk (n := w.heap.size) (cs := #[.int .i64 i, .int .i64 x, .int .i64 y, .int .i64 u, .int .i64 v, .int .i64 p, .int .i64 q, .bool r, .bool f]) (t := 25) (by repeat (first | with_reducible assumption | (with_reducible refine Blk.new ?_; simp; done) | with_reducible refine Blk.alloc ?_)); have bP := hg1.blk (n := w.heap.size + 1) (cs := #[.int .i64 px, .int .i64 py]) (t := 23) (by repeat (first | with_reducible assumption | (with_reducible refine Blk.new ?_; simp; done) | with_reducible refine Blk.alloc ?_)); obtain ⟨aA, fA⟩ := bA.facts; have lA := bA.lt; have lP := bP.lt))
    | (go_at_call 33; ((with_reducible refine (rValid_any i x y u v p q r f _).mono ?_); rintro e w2 ⟨rfl, hg2⟩; have bP2 := hg2.blk (n := w.heap.size + 1) (cs := #[.int .i64 px, .int .i64 py]) (t := 23) (by repeat (first | with_reducible assumption | (with_reducible refine Blk.new ?_; simp; done) | with_reducible refine Blk.alloc ?_)); have bA2 := hg2.blk (n := w.heap.size) (cs := #[.int .i64 i, .int .i64 x, .int .i64 y, .int .i64 u, .int .i64 v, .int .i64 p, .int .i64 q, .bool r, .bool f]) (t := 25) (by repeat (first | with_reducible assumption | (with_reducible refine Blk.new ?_; simp; done) | with_reducible refine Blk.alloc ?_)); have bL := hg2.blk (n := w1.heap.size) (cs := #[.int .i64 (x - p), .int .i64 (y - q)]) (t := 23) (by repeat (first | with_reducible assumption | (with_reducible refine Blk.new ?_; simp; done) | with_reducible refine Blk.alloc ?_)); have bH := hg2.blk (n := w1.heap.size + 1) (cs := #[.int .i64 (x + p), .int .i64 (y + q)]) (t := 23) (by repeat (first | with_reducible assumption | (with_reducible refine Blk.new ?_; simp; done) | with_reducible refine Blk.alloc ?_)); clear aA fA; obtain ⟨aA2, -⟩ := bA2.facts; obtain ⟨aP2, -⟩ := bP2.facts; obtain ⟨aL, -⟩ := bL.facts; obtain ⟨aH, -⟩ := bH.facts)))
  go_ret
  exact ⟨ret_bool HV.out.symm, by repeat (first | with_reducible exact Gr.refl _ | with_reducible assumption | with_reducible refine Gr.alloc ?_ _ | with_reducible refine Gr.drew ?_ | with_reducible refine Gr.drewN ?_ _ | with_reducible refine Gr.trans ?_ (by assumption))⟩

set_option maxHeartbeats 1000000 in
theorem rHas_out2 (i x y u v p q : Int) (r f : Bool) (px py : Int) (w : World) (h1 : vldB i x y u v p q r f = true) (h2 : x - p ≤ px) (h3 : px ≤ x + p) (h4 : py < y - q) :
    Calls Tryd.prog 34 #[.agg #[.int .i64 i, .int .i64 x, .int .i64 y, .int .i64 u, .int .i64 v, .int .i64 p, .int .i64 q, .bool r, .bool f], .agg #[.int .i64 px, .int .i64 py]] w
      fun e w' => e = .returned (.bool (hasB i x y u v p q r f px py)) ∧ Gr w w' := by
  have ha : allIn (y - q) (y + q) [py] = false := by rw [Bool.eq_false_iff]; intro hh; have := allIn1.1 hh; omega
  have hv : hasB i x y u v p q r f px py = false := by simp [hasB, ha]
  have HV := Lib.hid hv; clear hv ha
  go_enter Tryd.func34, Tryd.ntmps34
  go_wp2_with (first
    | (go_at_call 32; ((with_reducible refine (rBounds_yes i x y u v p q r f _ h1).mono ?_); rintro e w1 ⟨rfl, hg1⟩; have bA := hg1.blk (n := w.heap.size) (cs := #[.int .i64 i, .int .i64 x, .int .i64 y, .int .i64 u, .int .i64 v, .int .i64 p, .int .i64 q, .bool r, .bool f]) (t := 25) (by repeat (first | with_reducible assumption | (with_reducible refine Blk.new ?_; simp; done) | with_reducible refine Blk.alloc ?_)); have bP := hg1.blk (n := w.heap.size + 1) (cs := #[.int .i64 px, .int .i64 py]) (t := 23) (by repeat (first | with_reducible assumption | (with_reducible refine Blk.new ?_; simp; done) | with_reducible refine Blk.alloc ?_)); obtain ⟨aA, fA⟩ := bA.facts; have lA := bA.lt; have lP := bP.lt))
    | (go_at_call 33; ((with_reducible refine (rValid_any i x y u v p q r f _).mono ?_); rintro e w2 ⟨rfl, hg2⟩; have bP2 := hg2.blk (n := w.heap.size + 1) (cs := #[.int .i64 px, .int .i64 py]) (t := 23) (by repeat (first | with_reducible assumption | (with_reducible refine Blk.new ?_; simp; done) | with_reducible refine Blk.alloc ?_)); have bA2 := hg2.blk (n := w.heap.size) (cs := #[.int .i64 i, .int .i64 x, .int .i64 y, .int .i64 u, .int .i64 v, .int .i64 p, .int .i64 q, .bool r, .bool f]) (t := 25) (by repeat (first | with_reducible assumption | (with_reducible refine Blk.new ?_; simp; done) | with_reducible refine Blk.alloc ?_)); have bL := hg2.blk (n := w1.heap.size) (cs := #[.int .i64 (x - p), .int .i64 (y - q)]) (t := 23) (by repeat (first | with_reducible assumption | (with_reducible refine Blk.new ?_; simp; done) | with_reducible refine Blk.alloc ?_)); have bH := hg2.blk (n := w1.heap.size + 1) (cs := #[.int .i64 (x + p), .int .i64 (y + q)]) (t := 23) (by repeat (first | with_reducible assumption | (with_reducible refine Blk.new ?_; simp; done) | with_reducible refine Blk.alloc ?_)); clear aA fA; obtain ⟨aA2, -⟩ := bA2.facts; obtain ⟨aP2, -⟩ := bP2.facts; obtain ⟨aL, -⟩ := bL.facts; obtain ⟨aH, -⟩ := bH.facts)))
  go_ret
  exact ⟨ret_bool HV.out.symm, by repeat (first | with_reducible exact Gr.refl _ | with_reducible assumption | with_reducible refine Gr.alloc ?_ _ | with_reducible refine Gr.drew ?_ | with_reducible refine Gr.drewN ?_ _ | with_reducible refine Gr.trans ?_ (by assumption))⟩

set_option maxHeartbeats 1000000 in
theorem rHas_out3 (i x y u v p q : Int) (r f : Bool) (px py : Int) (w : World) (h1 : vldB i x y u v p q r f = true) (h2 : x - p ≤ px) (h3 : px ≤ x + p) (h4 : y - q ≤ py) (h5 : y + q < py) :
    Calls Tryd.prog 34 #[.agg #[.int .i64 i, .int .i64 x, .int .i64 y, .int .i64 u, .int .i64 v, .int .i64 p, .int .i64 q, .bool r, .bool f], .agg #[.int .i64 px, .int .i64 py]] w
      fun e w' => e = .returned (.bool (hasB i x y u v p q r f px py)) ∧ Gr w w' := by
  have ha : allIn (y - q) (y + q) [py] = false := by rw [Bool.eq_false_iff]; intro hh; have := allIn1.1 hh; omega
  have hv : hasB i x y u v p q r f px py = false := by simp [hasB, ha]
  have HV := Lib.hid hv; clear hv ha
  go_enter Tryd.func34, Tryd.ntmps34
  go_wp2_with (first
    | (go_at_call 32; ((with_reducible refine (rBounds_yes i x y u v p q r f _ h1).mono ?_); rintro e w1 ⟨rfl, hg1⟩; have bA := hg1.blk (n := w.heap.size) (cs := #[.int .i64 i, .int .i64 x, .int .i64 y, .int .i64 u, .int .i64 v, .int .i64 p, .int .i64 q, .bool r, .bool f]) (t := 25) (by repeat (first | with_reducible assumption | (with_reducible refine Blk.new ?_; simp; done) | with_reducible refine Blk.alloc ?_)); have bP := hg1.blk (n := w.heap.size + 1) (cs := #[.int .i64 px, .int .i64 py]) (t := 23) (by repeat (first | with_reducible assumption | (with_reducible refine Blk.new ?_; simp; done) | with_reducible refine Blk.alloc ?_)); obtain ⟨aA, fA⟩ := bA.facts; have lA := bA.lt; have lP := bP.lt))
    | (go_at_call 33; ((with_reducible refine (rValid_any i x y u v p q r f _).mono ?_); rintro e w2 ⟨rfl, hg2⟩; have bP2 := hg2.blk (n := w.heap.size + 1) (cs := #[.int .i64 px, .int .i64 py]) (t := 23) (by repeat (first | with_reducible assumption | (with_reducible refine Blk.new ?_; simp; done) | with_reducible refine Blk.alloc ?_)); have bA2 := hg2.blk (n := w.heap.size) (cs := #[.int .i64 i, .int .i64 x, .int .i64 y, .int .i64 u, .int .i64 v, .int .i64 p, .int .i64 q, .bool r, .bool f]) (t := 25) (by repeat (first | with_reducible assumption | (with_reducible refine Blk.new ?_; simp; done) | with_reducible refine Blk.alloc ?_)); have bL := hg2.blk (n := w1.heap.size) (cs := #[.int .i64 (x - p), .int .i64 (y - q)]) (t := 23) (by repeat (first | with_reducible assumption | (with_reducible refine Blk.new ?_; simp; done) | with_reducible refine Blk.alloc ?_)); have bH := hg2.blk (n := w1.heap.size + 1) (cs := #[.int .i64 (x + p), .int .i64 (y + q)]) (t := 23) (by repeat (first | with_reducible assumption | (with_reducible refine Blk.new ?_; simp; done) | with_reducible refine Blk.alloc ?_)); clear aA fA; obtain ⟨aA2, -⟩ := bA2.facts; obtain ⟨aP2, -⟩ := bP2.facts; obtain ⟨aL, -⟩ := bL.facts; obtain ⟨aH, -⟩ := bH.facts)))
  go_ret
  exact ⟨ret_bool HV.out.symm, by repeat (first | with_reducible exact Gr.refl _ | with_reducible assumption | with_reducible refine Gr.alloc ?_ _ | with_reducible refine Gr.drew ?_ | with_reducible refine Gr.drewN ?_ _ | with_reducible refine Gr.trans ?_ (by assumption))⟩

set_option maxHeartbeats 2000000 in
theorem rHas_in0 (i x y u v p q : Int) (f : Bool) (px py : Int) (w : World) (h1 : vldB i x y u v p q false f = true) (ha1 : x - p ≤ px) (ha2 : px ≤ x + p) (hb1 : y - q ≤ py) (hb2 : py ≤ y + q) :
    Calls Tryd.prog 34 #[.agg #[.int .i64 i, .int .i64 x, .int .i64 y, .int .i64 u, .int .i64 v, .int .i64 p, .int .i64 q, .bool false, .bool f], .agg #[.int .i64 px, .int .i64 py]] w
      fun e w' => e = .returned (.bool (hasB i x y u v p q false f px py)) ∧ Gr w w' := by
  have hv : hasB i x y u v p q false f px py = true := by simp [hasB, h1, allIn1.2 ⟨ha1, ha2⟩, allIn1.2 ⟨hb1, hb2⟩]
  have HV := Lib.hid hv; clear hv
  obtain ⟨-, ⟨hx1, hx2⟩, ⟨hy1, hy2⟩, -, -, ⟨hp1, hp2⟩, ⟨hq1, hq2⟩, -, -⟩ := vldB_iff.1 h1
  have m1 := sq_small (n := px - x) (by omega) (by omega)
  have m2 := sq_small (n := py - y) (by omega) (by omega)
  have m3 := sq_small (n := p) (by omega) (by omega)
  obtain ⟨m11, m12⟩ := m1; obtain ⟨m21, m22⟩ := m2; obtain ⟨m31, m32⟩ := m3
  go_enter Tryd.func34, Tryd.ntmps34
  go_wp2_with (first
    | (go_at_call 32; ((with_reducible refine (rBounds_yes i x y u v p q false f _ h1).mono ?_); rintro e w1 ⟨rfl, hg1⟩; have bA := hg1.blk (n := w.heap.size) (cs := #[.int .i64 i, .int .i64 x, .int .i64 y, .int .i64 u, .int .i64 v, .int .i64 p, .int .i64 q, .bool false, .bool f]) (t := 25) (by repeat (first | with_reducible assumption | (with_reducible refine Blk.new ?_; simp; done) | with_reducible refine Blk.alloc ?_)); have bP := hg1.blk (n := w.heap.size + 1) (cs := #[.int .i64 px, .int .i64 py]) (t := 23) (by repeat (first | with_reducible assumption | (with_reducible refine Blk.new ?_; simp; done) | with_reducible refine Blk.alloc ?_)); obtain ⟨aA, fA⟩ := bA.facts; have lA := bA.lt; have lP := bP.lt))
    | (go_at_call 33; ((with_reducible refine (rValid_any i x y u v p q false f _).mono ?_); rintro e w2 ⟨rfl, hg2⟩; have bP2 := hg2.blk (n := w.heap.size + 1) (cs := #[.int .i64 px, .int .i64 py]) (t := 23) (by repeat (first | with_reducible assumption | (with_reducible refine Blk.new ?_; simp; done) | with_reducible refine Blk.alloc ?_)); have bA2 := hg2.blk (n := w.heap.size) (cs := #[.int .i64 i, .int .i64 x, .int .i64 y, .int .i64 u, .int .i64 v, .int .i64 p, .int .i64 q, .bool false, .bool f]) (t := 25) (by repeat (first | with_reducible assumption | (with_reducible refine Blk.new ?_; simp; done) | with_reducible refine Blk.alloc ?_)); have bL := hg2.blk (n := w1.heap.size) (cs := #[.int .i64 (x - p), .int .i64 (y - q)]) (t := 23) (by repeat (first | with_reducible assumption | (with_reducible refine Blk.new ?_; simp; done) | with_reducible refine Blk.alloc ?_)); have bH := hg2.blk (n := w1.heap.size + 1) (cs := #[.int .i64 (x + p), .int .i64 (y + q)]) (t := 23) (by repeat (first | with_reducible assumption | (with_reducible refine Blk.new ?_; simp; done) | with_reducible refine Blk.alloc ?_)); clear aA fA; obtain ⟨aA2, -⟩ := bA2.facts; obtain ⟨aP2, -⟩ := bP2.facts; obtain ⟨aL, -⟩ := bL.facts; obtain ⟨aH, -⟩ := bH.facts)))
  have e1 : IntKind.i64.wrap (px - x) = px - x := IntWalk.i64_in _ (by omega)
  have e2 : IntKind.i64.wrap (py - y) = py - y := IntWalk.i64_in _ (by omega)
  go_quiet (fail)
  go_wp2
  all_goals
    go_ret
    exact ⟨ret_bool (by rw [HV.out]), by repeat (first | with_reducible exact Gr.refl _ | with_reducible assumption | with_reducible refine Gr.alloc ?_ _ | with_reducible refine Gr.drew ?_ | with_reducible refine Gr.drewN ?_ _ | with_reducible refine Gr.trans ?_ (by assumption))⟩

set_option maxHeartbeats 2000000 in
theorem rHas_in1 (i x y u v p q : Int) (f : Bool) (px py : Int) (w : World) (h1 : vldB i x y u v p q true f = true) (ha1 : x - p ≤ px) (ha2 : px ≤ x + p) (hb1 : y - q ≤ py) (hb2 : py ≤ y + q) :
    Calls Tryd.prog 34 #[.agg #[.int .i64 i, .int .i64 x, .int .i64 y, .int .i64 u, .int .i64 v, .int .i64 p, .int .i64 q, .bool true, .bool f], .agg #[.int .i64 px, .int .i64 py]] w
      fun e w' => e = .returned (.bool (hasB i x y u v p q true f px py)) ∧ Gr w w' := by
  have hv : hasB i x y u v p q true f px py = decide ((px - x) * (px - x) + (py - y) * (py - y) ≤ p * p) := by simp [hasB, h1, allIn1.2 ⟨ha1, ha2⟩, allIn1.2 ⟨hb1, hb2⟩]
  have HV := Lib.hid hv; clear hv
  obtain ⟨-, ⟨hx1, hx2⟩, ⟨hy1, hy2⟩, -, -, ⟨hp1, hp2⟩, ⟨hq1, hq2⟩, -, -⟩ := vldB_iff.1 h1
  have m1 := sq_small (n := px - x) (by omega) (by omega)
  have m2 := sq_small (n := py - y) (by omega) (by omega)
  have m3 := sq_small (n := p) (by omega) (by omega)
  obtain ⟨m11, m12⟩ := m1; obtain ⟨m21, m22⟩ := m2; obtain ⟨m31, m32⟩ := m3
  go_enter Tryd.func34, Tryd.ntmps34
  go_wp2_with (first
    | (go_at_call 32; ((with_reducible refine (rBounds_yes i x y u v p q true f _ h1).mono ?_); rintro e w1 ⟨rfl, hg1⟩; have bA := hg1.blk (n := w.heap.size) (cs := #[.int .i64 i, .int .i64 x, .int .i64 y, .int .i64 u, .int .i64 v, .int .i64 p, .int .i64 q, .bool true, .bool f]) (t := 25) (by repeat (first | with_reducible assumption | (with_reducible refine Blk.new ?_; simp; done) | with_reducible refine Blk.alloc ?_)); have bP := hg1.blk (n := w.heap.size + 1) (cs := #[.int .i64 px, .int .i64 py]) (t := 23) (by repeat (first | with_reducible assumption | (with_reducible refine Blk.new ?_; simp; done) | with_reducible refine Blk.alloc ?_)); obtain ⟨aA, fA⟩ := bA.facts; have lA := bA.lt; have lP := bP.lt))
    | (go_at_call 33; ((with_reducible refine (rValid_any i x y u v p q true f _).mono ?_); rintro e w2 ⟨rfl, hg2⟩; have bP2 := hg2.blk (n := w.heap.size + 1) (cs := #[.int .i64 px, .int .i64 py]) (t := 23) (by repeat (first | with_reducible assumption | (with_reducible refine Blk.new ?_; simp; done) | with_reducible refine Blk.alloc ?_)); have bA2 := hg2.blk (n := w.heap.size) (cs := #[.int .i64 i, .int .i64 x, .int .i64 y, .int .i64 u, .int .i64 v, .int .i64 p, .int .i64 q, .bool true, .bool f]) (t := 25) (by repeat (first | with_reducible assumption | (with_reducible refine Blk.new ?_; simp; done) | with_reducible refine Blk.alloc ?_)); have bL := hg2.blk (n := w1.heap.size) (cs := #[.int .i64 (x - p), .int .i64 (y - q)]) (t := 23) (by repeat (first | with_reducible assumption | (with_reducible refine Blk.new ?_; simp; done) | with_reducible refine Blk.alloc ?_)); have bH := hg2.blk (n := w1.heap.size + 1) (cs := #[.int .i64 (x + p), .int .i64 (y + q)]) (t := 23) (by repeat (first | with_reducible assumption | (with_reducible refine Blk.new ?_; simp; done) | with_reducible refine Blk.alloc ?_)); clear aA fA; obtain ⟨aA2, -⟩ := bA2.facts; obtain ⟨aP2, -⟩ := bP2.facts; obtain ⟨aL, -⟩ := bL.facts; obtain ⟨aH, -⟩ := bH.facts)))
  have e1 : IntKind.i64.wrap (px - x) = px - x := IntWalk.i64_in _ (by omega)
  have e2 : IntKind.i64.wrap (py - y) = py - y := IntWalk.i64_in _ (by omega)
  go_quiet (fail)
  go_wp2
  all_goals
    go_ret
    exact ⟨ret_bool (by rw [HV.out]), by repeat (first | with_reducible exact Gr.refl _ | with_reducible assumption | with_reducible refine Gr.alloc ?_ _ | with_reducible refine Gr.drew ?_ | with_reducible refine Gr.drewN ?_ _ | with_reducible refine Gr.trans ?_ (by assumption))⟩

theorem rHas_any (i x y u v p q : Int) (r f : Bool) (px py : Int) (w : World) :
    Calls Tryd.prog 34 #[.agg #[.int .i64 i, .int .i64 x, .int .i64 y, .int .i64 u, .int .i64 v, .int .i64 p, .int .i64 q, .bool r, .bool f], .agg #[.int .i64 px, .int .i64 py]] w
      fun e w' => e = .returned (.bool (hasB i x y u v p q r f px py)) ∧ Gr w w' := by
  cases h1 : vldB i x y u v p q r f
  · exact rHas_no1 i x y u v p q r f px py w h1
  by_cases h2 : px < x - p
  · exact rHas_out0 i x y u v p q r f px py w h1 h2
  by_cases h3 : x + p < px
  · exact rHas_out1 i x y u v p q r f px py w h1 (by omega) h3
  by_cases h4 : py < y - q
  · exact rHas_out2 i x y u v p q r f px py w h1 (by omega) (by omega) h4
  by_cases h5 : y + q < py
  · exact rHas_out3 i x y u v p q r f px py w h1 (by omega) (by omega) (by omega) h5
  cases r
  · exact rHas_in0 i x y u v p q f px py w h1 (by omega) (by omega) (by omega) (by omega)
  · exact rHas_in1 i x y u v p q f px py w h1 (by omega) (by omega) (by omega) (by omega)
end Go.Proofs.YtggcfjeehpcclaaDoor
