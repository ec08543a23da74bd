/- The contracts of the reference's Overlap, Meet, Touch: what the program's own return. -/
import Derived.Test.YtggcfjeehpcclaaDoorC4
import Derived.Test.YtggcfjeehpcclaaDoorB3
namespace Go.Proofs.YtggcfjeehpcclaaDoor
open Go.RowKit

theorem abs_sq (d : Int) : max d (-d) * max d (-d) = d * d := by
  rcases Int.le_total 0 d with h | h
  · rw [show max d (-d) = d from by omega]
  · rw [show max d (-d) = -d from by omega, Int.neg_mul_neg]
theorem farI_eq {x x' p : Int} (hp : 1 ≤ p) : farI x' (x - p) (x + p) = max (max (x - x') (-(x - x')) - p) 0 := by unfold farI; omega
theorem farI_eq' {x x' p : Int} (hp : 1 ≤ p) : farI x' (x - p) (x + p) = max (max (x' - x) (-(x' - x)) - p) 0 := by unfold farI; omega
/-- The two ways to say how far two bodies are from each other have the same sign. -/
def SameSign (a b : Int) : Prop := (a < 0 ↔ b < 0) ∧ (a ≤ 0 ↔ b ≤ 0) ∧ (a = 0 ↔ b = 0)
theorem SameSign.of_eq {a b : Int} (h : a = b) : SameSign a b := by subst h; exact ⟨Iff.rfl, Iff.rfl, Iff.rfl⟩
theorem sq_sign {x y p q : Int} {r : Bool} {x' y' p' q' : Int} {r' : Bool} (hp : 1 ≤ p) (hq : 1 ≤ q) (hp' : 1 ≤ p') (hq' : 1 ≤ q') : SameSign (sqV x y p q r x' y' p' q' r') (farV x y p q r x' y' p' q' r') := by
  unfold sqV farV roomV
  cases r <;> cases r'
  · simp only [Bool.false_eq_true, if_false]
    refine ⟨?_, ?_, ?_⟩ <;> omega
  · simp only [Bool.false_eq_true, if_false, if_true]
    refine SameSign.of_eq ?_
    unfold bcV
    rw [farI_eq hp, farI_eq hq]
  · simp only [Bool.false_eq_true, if_false, if_true]
    refine SameSign.of_eq ?_
    unfold bcV
    rw [farI_eq' hp', farI_eq' hq']
  · simp only [if_true]
    exact SameSign.of_eq (by rw [abs_sq, abs_sq])

theorem rSq_any (i x y u v p q : Int) (r f : Bool) (i' x' y' u' v' p' q' : Int) (r' f' : Bool) (w : World) (h : bothB i x y u v p q r f i' x' y' u' v' p' q' r' f' = true) :
    Calls Tryd.prog 39 #[.agg #[.int .i64 i, .int .i64 x, .int .i64 y, .int .i64 u, .int .i64 v, .int .i64 p, .int .i64 q, .bool r, .bool f], .agg #[.int .i64 i', .int .i64 x', .int .i64 y', .int .i64 u', .int .i64 v', .int .i64 p', .int .i64 q', .bool r', .bool f']] w
      fun e w' => e = .returned (.int .i64 (sqV x y p q r x' y' p' q' r')) ∧ Gr w w' := by
  have hv : (vldB i x y u v p q r f && vldB i' x' y' u' v' p' q' r' f') = true := h
  rw [Bool.and_eq_true] at hv
  obtain ⟨h1, h2⟩ := hv
  cases r <;> cases r'
  · exact rSq00 i x y u v p q f i' x' y' u' v' p' q' f' w h1 h2
  · exact rSq01 i x y u v p q f i' x' y' u' v' p' q' f' w h1 h2
  · exact rSq10 i x y u v p q f i' x' y' u' v' p' q' f' w h1 h2
  · exact rSq11 i x y u v p q f i' x' y' u' v' p' q' f' w h1 h2

theorem both_sign {i x y u v p q : Int} {r f : Bool} {i' x' y' u' v' p' q' : Int} {r' f' : Bool} (h : bothB i x y u v p q r f i' x' y' u' v' p' q' r' f' = true) : SameSign (sqV x y p q r x' y' p' q' r') (farV x y p q r x' y' p' q' r') := by
  have hv : (vldB i x y u v p q r f && vldB i' x' y' u' v' p' q' r' f') = true := h
  rw [Bool.and_eq_true] at hv
  obtain ⟨-, -, -, -, -, ⟨hp, -⟩, ⟨hq, -⟩, -, -⟩ := vldB_iff.1 hv.1
  obtain ⟨-, -, -, -, -, ⟨hp', -⟩, ⟨hq', -⟩, -, -⟩ := vldB_iff.1 hv.2
  exact sq_sign hp hq hp' hq'

set_option maxHeartbeats 1000000 in
theorem rOverlap_no1 (i x y u v p q : Int) (r f : Bool) (i' x' y' u' v' p' q' : Int) (r' f' : Bool) (w : World) (h1 : vldB i x y u v p q r f = false) :
    Calls Tryd.prog 29 #[.agg #[.int .i64 i, .int .i64 x, .int .i64 y, .int .i64 u, .int .i64 v, .int .i64 p, .int .i64 q, .bool r, .bool f], .agg #[.int .i64 i', .int .i64 x', .int .i64 y', .int .i64 u', .int .i64 v', .int .i64 p', .int .i64 q', .bool r', .bool f']] w
      fun e w' => e = .returned (.bool (ovB i x y u v p q r f i' x' y' u' v' p' q' r' f')) ∧ Gr w w' := by
  have ho : ovB i x y u v p q r f i' x' y' u' v' p' q' r' f' = false := by simp [ovB, bothB, h1]
  have HO := Lib.hid ho; clear ho
  go_enter Tryd.func29, Tryd.ntmps29
  go_wp2_with (go_at_call 33; ((with_reducible refine (rValid_any i x y u v p q r f _).mono ?_); rintro e w1 ⟨rfl, hg⟩; have bA := hg.blk (n := w.heap.size) (cs := #[.int .i64 i, .int .i64 x, .int .i64 y, .int .i64 u, .int .i64 v, .int .i64 p, .int .i64 q, .bool r, .bool f]) (t := 25) (by repeat (first | with_reducible assumption | (with_reducible refine Blk.new ?_; simp; done) | with_reducible refine Blk.alloc ?_)); have bB := hg.blk (n := w.heap.size + 1) (cs := #[.int .i64 i', .int .i64 x', .int .i64 y', .int .i64 u', .int .i64 v', .int .i64 p', .int .i64 q', .bool r', .bool f']) (t := 25) (by repeat (first | with_reducible assumption | (with_reducible refine Blk.new ?_; simp; done) | with_reducible refine Blk.alloc ?_)); obtain ⟨aA, -⟩ := bA.facts; obtain ⟨aB, -⟩ := bB.facts))
  go_ret
  exact ⟨ret_bool HO.out.symm, by repeat (first | with_reducible exact Gr.refl _ | with_reducible assumption | with_reducible refine Gr.alloc ?_ _ | with_reducible refine Gr.drew ?_ | with_reducible refine Gr.drewN ?_ _ | with_reducible refine Gr.trans ?_ (by assumption))⟩

set_option maxHeartbeats 1000000 in
theorem rOverlap_no2 (i x y u v p q : Int) (r f : Bool) (i' x' y' u' v' p' q' : Int) (r' f' : Bool) (w : World) (h1 : vldB i x y u v p q r f = true) (h2 : vldB i' x' y' u' v' p' q' r' f' = false) :
    Calls Tryd.prog 29 #[.agg #[.int .i64 i, .int .i64 x, .int .i64 y, .int .i64 u, .int .i64 v, .int .i64 p, .int .i64 q, .bool r, .bool f], .agg #[.int .i64 i', .int .i64 x', .int .i64 y', .int .i64 u', .int .i64 v', .int .i64 p', .int .i64 q', .bool r', .bool f']] w
      fun e w' => e = .returned (.bool (ovB i x y u v p q r f i' x' y' u' v' p' q' r' f')) ∧ Gr w w' := by
  have ho : ovB i x y u v p q r f i' x' y' u' v' p' q' r' f' = false := by simp [ovB, bothB, h1, h2]
  have HO := Lib.hid ho; clear ho
  go_enter Tryd.func29, Tryd.ntmps29
  go_wp2_with (go_at_call 33; first | ((with_reducible refine (rValid_any i x y u v p q r f _).mono ?_); rintro e w1 ⟨rfl, hg⟩; have bA := hg.blk (n := w.heap.size) (cs := #[.int .i64 i, .int .i64 x, .int .i64 y, .int .i64 u, .int .i64 v, .int .i64 p, .int .i64 q, .bool r, .bool f]) (t := 25) (by repeat (first | with_reducible assumption | (with_reducible refine Blk.new ?_; simp; done) | with_reducible refine Blk.alloc ?_)); have bB := hg.blk (n := w.heap.size + 1) (cs := #[.int .i64 i', .int .i64 x', .int .i64 y', .int .i64 u', .int .i64 v', .int .i64 p', .int .i64 q', .bool r', .bool f']) (t := 25) (by repeat (first | with_reducible assumption | (with_reducible refine Blk.new ?_; simp; done) | with_reducible refine Blk.alloc ?_)); obtain ⟨aA, -⟩ := bA.facts; obtain ⟨aB, -⟩ := bB.facts) | ((with_reducible refine (rValid_any i' x' y' u' v' p' q' r' f' _).mono ?_); rintro e w2 ⟨rfl, hg2⟩; have bA2 := hg2.blk bA; have bB2 := hg2.blk bB; clear aA aB; obtain ⟨aA2, -⟩ := bA2.facts; obtain ⟨aB2, -⟩ := bB2.facts))
  go_ret
  exact ⟨ret_bool HO.out.symm, by repeat (first | with_reducible exact Gr.refl _ | with_reducible assumption | with_reducible refine Gr.alloc ?_ _ | with_reducible refine Gr.drew ?_ | with_reducible refine Gr.drewN ?_ _ | with_reducible refine Gr.trans ?_ (by assumption))⟩

set_option maxHeartbeats 1000000 in
theorem rOverlap_yes (i x y u v p q : Int) (r f : Bool) (i' x' y' u' v' p' q' : Int) (r' f' : Bool) (w : World) (h1 : vldB i x y u v p q r f = true) (h2 : vldB i' x' y' u' v' p' q' r' f' = true) :
    Calls Tryd.prog 29 #[.agg #[.int .i64 i, .int .i64 x, .int .i64 y, .int .i64 u, .int .i64 v, .int .i64 p, .int .i64 q, .bool r, .bool f], .agg #[.int .i64 i', .int .i64 x', .int .i64 y', .int .i64 u', .int .i64 v', .int .i64 p', .int .i64 q', .bool r', .bool f']] w
      fun e w' => e = .returned (.bool (ovB i x y u v p q r f i' x' y' u' v' p' q' r' f')) ∧ Gr w w' := by
  have hb : bothB i x y u v p q r f i' x' y' u' v' p' q' r' f' = true := by simp [bothB, h1, h2]
  have ho : ovB i x y u v p q r f i' x' y' u' v' p' q' r' f' = decide (sqV x y p q r x' y' p' q' r' < 0) := by
    have hs := (both_sign hb).1
    simp only [ovB, hb, Bool.true_and]
    exact decide_eq_decide.2 hs.symm
  generalize hz : sqV x y p q r x' y' p' q' r' = z at ho
  have HO := Lib.hid ho; have HB := Lib.hid hb; have HZ := Lib.hid hz; clear ho hb hz
  have hsq : ∀ W, Calls Tryd.prog 39 #[.agg #[.int .i64 i, .int .i64 x, .int .i64 y, .int .i64 u, .int .i64 v, .int .i64 p, .int .i64 q, .bool r, .bool f], .agg #[.int .i64 i', .int .i64 x', .int .i64 y', .int .i64 u', .int .i64 v', .int .i64 p', .int .i64 q', .bool r', .bool f']] W fun e w' => e = .returned (.int .i64 z) ∧ Gr W w' := fun W => by
    have := rSq_any i x y u v p q r f i' x' y' u' v' p' q' r' f' W HB.out
    rw [HZ.out] at this
    exact this
  have HS := Lib.hid hsq; clear hsq
  go_enter Tryd.func29, Tryd.ntmps29
  go_wp2_with (first
    | (go_at_call 33; first | ((with_reducible refine (rValid_any i x y u v p q r f _).mono ?_); rintro e w1 ⟨rfl, hg⟩; have bA := hg.blk (n := w.heap.size) (cs := #[.int .i64 i, .int .i64 x, .int .i64 y, .int .i64 u, .int .i64 v, .int .i64 p, .int .i64 q, .bool r, .bool f]) (t := 25) (by repeat (first | with_reducible assumption | (with_reducible refine Blk.new ?_; simp; done) | with_reducible refine Blk.alloc ?_)); have bB := hg.blk (n := w.heap.size + 1) (cs := #[.int .i64 i', .int .i64 x', .int .i64 y', .int .i64 u', .int .i64 v', .int .i64 p', .int .i64 q', .bool r', .bool f']) (t := 25) (by repeat (first | with_reducible assumption | (with_reducible refine Blk.new ?_; simp; done) | with_reducible refine Blk.alloc ?_)); obtain ⟨aA, -⟩ := bA.facts; obtain ⟨aB, -⟩ := bB.facts) | ((with_reducible refine (rValid_any i' x' y' u' v' p' q' r' f' _).mono ?_); rintro e w2 ⟨rfl, hg2⟩; have bA2 := hg2.blk bA; have bB2 := hg2.blk bB; clear aA aB; obtain ⟨aA2, -⟩ := bA2.facts; obtain ⟨aB2, -⟩ := bB2.facts))
    | (go_at_call 39; ((with_reducible refine (HS.out _).mono ?_); rintro e w3 ⟨rfl, hg3⟩)))
  all_goals
    go_ret
    exact ⟨ret_bool (by rw [HO.out]; first | done | rfl | simp [*]), by repeat (first | with_reducible exact Gr.refl _ | with_reducible assumption | with_reducible refine Gr.alloc ?_ _ | with_reducible refine Gr.drew ?_ | with_reducible refine Gr.drewN ?_ _ | with_reducible refine Gr.trans ?_ (by assumption))⟩

theorem rOverlap_any (i x y u v p q : Int) (r f : Bool) (i' x' y' u' v' p' q' : Int) (r' f' : Bool) (w : World)  :
    Calls Tryd.prog 29 #[.agg #[.int .i64 i, .int .i64 x, .int .i64 y, .int .i64 u, .int .i64 v, .int .i64 p, .int .i64 q, .bool r, .bool f], .agg #[.int .i64 i', .int .i64 x', .int .i64 y', .int .i64 u', .int .i64 v', .int .i64 p', .int .i64 q', .bool r', .bool f']] w
      fun e w' => e = .returned (.bool (ovB i x y u v p q r f i' x' y' u' v' p' q' r' f')) ∧ Gr w w' := by
  cases h1 : vldB i x y u v p q r f
  · exact rOverlap_no1 i x y u v p q r f i' x' y' u' v' p' q' r' f' w h1
  cases h2 : vldB i' x' y' u' v' p' q' r' f'
  · exact rOverlap_no2 i x y u v p q r f i' x' y' u' v' p' q' r' f' w h1 h2
  exact rOverlap_yes i x y u v p q r f i' x' y' u' v' p' q' r' f' w h1 h2

set_option maxHeartbeats 1000000 in
theorem rMeet_no1 (i x y u v p q : Int) (r f : Bool) (i' x' y' u' v' p' q' : Int) (r' f' : Bool) (w : World) (h1 : vldB i x y u v p q r f = false) :
    Calls Tryd.prog 30 #[.agg #[.int .i64 i, .int .i64 x, .int .i64 y, .int .i64 u, .int .i64 v, .int .i64 p, .int .i64 q, .bool r, .bool f], .agg #[.int .i64 i', .int .i64 x', .int .i64 y', .int .i64 u', .int .i64 v', .int .i64 p', .int .i64 q', .bool r', .bool f']] w
      fun e w' => e = .returned (.bool (meB i x y u v p q r f i' x' y' u' v' p' q' r' f')) ∧ Gr w w' := by
  have ho : meB i x y u v p q r f i' x' y' u' v' p' q' r' f' = false := by simp [meB, bothB, h1]
  have HO := Lib.hid ho; clear ho
  go_enter Tryd.func30, Tryd.ntmps30
  go_wp2_with (go_at_call 33; ((with_reducible refine (rValid_any i x y u v p q r f _).mono ?_); rintro e w1 ⟨rfl, hg⟩; have bA := hg.blk (n := w.heap.size) (cs := #[.int .i64 i, .int .i64 x, .int .i64 y, .int .i64 u, .int .i64 v, .int .i64 p, .int .i64 q, .bool r, .bool f]) (t := 25) (by repeat (first | with_reducible assumption | (with_reducible refine Blk.new ?_; simp; done) | with_reducible refine Blk.alloc ?_)); have bB := hg.blk (n := w.heap.size + 1) (cs := #[.int .i64 i', .int .i64 x', .int .i64 y', .int .i64 u', .int .i64 v', .int .i64 p', .int .i64 q', .bool r', .bool f']) (t := 25) (by repeat (first | with_reducible assumption | (with_reducible refine Blk.new ?_; simp; done) | with_reducible refine Blk.alloc ?_)); obtain ⟨aA, -⟩ := bA.facts; obtain ⟨aB, -⟩ := bB.facts))
  go_ret
  exact ⟨ret_bool HO.out.symm, by repeat (first | with_reducible exact Gr.refl _ | with_reducible assumption | with_reducible refine Gr.alloc ?_ _ | with_reducible refine Gr.drew ?_ | with_reducible refine Gr.drewN ?_ _ | with_reducible refine Gr.trans ?_ (by assumption))⟩

set_option maxHeartbeats 1000000 in
theorem rMeet_no2 (i x y u v p q : Int) (r f : Bool) (i' x' y' u' v' p' q' : Int) (r' f' : Bool) (w : World) (h1 : vldB i x y u v p q r f = true) (h2 : vldB i' x' y' u' v' p' q' r' f' = false) :
    Calls Tryd.prog 30 #[.agg #[.int .i64 i, .int .i64 x, .int .i64 y, .int .i64 u, .int .i64 v, .int .i64 p, .int .i64 q, .bool r, .bool f], .agg #[.int .i64 i', .int .i64 x', .int .i64 y', .int .i64 u', .int .i64 v', .int .i64 p', .int .i64 q', .bool r', .bool f']] w
      fun e w' => e = .returned (.bool (meB i x y u v p q r f i' x' y' u' v' p' q' r' f')) ∧ Gr w w' := by
  have ho : meB i x y u v p q r f i' x' y' u' v' p' q' r' f' = false := by simp [meB, bothB, h1, h2]
  have HO := Lib.hid ho; clear ho
  go_enter Tryd.func30, Tryd.ntmps30
  go_wp2_with (go_at_call 33; first | ((with_reducible refine (rValid_any i x y u v p q r f _).mono ?_); rintro e w1 ⟨rfl, hg⟩; have bA := hg.blk (n := w.heap.size) (cs := #[.int .i64 i, .int .i64 x, .int .i64 y, .int .i64 u, .int .i64 v, .int .i64 p, .int .i64 q, .bool r, .bool f]) (t := 25) (by repeat (first | with_reducible assumption | (with_reducible refine Blk.new ?_; simp; done) | with_reducible refine Blk.alloc ?_)); have bB := hg.blk (n := w.heap.size + 1) (cs := #[.int .i64 i', .int .i64 x', .int .i64 y', .int .i64 u', .int .i64 v', .int .i64 p', .int .i64 q', .bool r', .bool f']) (t := 25) (by repeat (first | with_reducible assumption | (with_reducible refine Blk.new ?_; simp; done) | with_reducible refine Blk.alloc ?_)); obtain ⟨aA, -⟩ := bA.facts; obtain ⟨aB, -⟩ := bB.facts) | ((with_reducible refine (rValid_any i' x' y' u' v' p' q' r' f' _).mono ?_); rintro e w2 ⟨rfl, hg2⟩; have bA2 := hg2.blk bA; have bB2 := hg2.blk bB; clear aA aB; obtain ⟨aA2, -⟩ := bA2.facts; obtain ⟨aB2, -⟩ := bB2.facts))
  go_ret
  exact ⟨ret_bool HO.out.symm, by repeat (first | with_reducible exact Gr.refl _ | with_reducible assumption | with_reducible refine Gr.alloc ?_ _ | with_reducible refine Gr.drew ?_ | with_reducible refine Gr.drewN ?_ _ | with_reducible refine Gr.trans ?_ (by assumption))⟩

set_option maxHeartbeats 1000000 in
theorem rMeet_yes (i x y u v p q : Int) (r f : Bool) (i' x' y' u' v' p' q' : Int) (r' f' : Bool) (w : World) (h1 : vldB i x y u v p q r f = true) (h2 : vldB i' x' y' u' v' p' q' r' f' = true) :
    Calls Tryd.prog 30 #[.agg #[.int .i64 i, .int .i64 x, .int .i64 y, .int .i64 u, .int .i64 v, .int .i64 p, .int .i64 q, .bool r, .bool f], .agg #[.int .i64 i', .int .i64 x', .int .i64 y', .int .i64 u', .int .i64 v', .int .i64 p', .int .i64 q', .bool r', .bool f']] w
      fun e w' => e = .returned (.bool (meB i x y u v p q r f i' x' y' u' v' p' q' r' f')) ∧ Gr w w' := by
  have hb : bothB i x y u v p q r f i' x' y' u' v' p' q' r' f' = true := by simp [bothB, h1, h2]
  have ho : meB i x y u v p q r f i' x' y' u' v' p' q' r' f' = decide (sqV x y p q r x' y' p' q' r' ≤ 0) := by
    have hs := (both_sign hb).2.1
    simp only [meB, hb, Bool.true_and]
    exact decide_eq_decide.2 hs.symm
  generalize hz : sqV x y p q r x' y' p' q' r' = z at ho
  have HO := Lib.hid ho; have HB := Lib.hid hb; have HZ := Lib.hid hz; clear ho hb hz
  have hsq : ∀ W, Calls Tryd.prog 39 #[.agg #[.int .i64 i, .int .i64 x, .int .i64 y, .int .i64 u, .int .i64 v, .int .i64 p, .int .i64 q, .bool r, .bool f], .agg #[.int .i64 i', .int .i64 x', .int .i64 y', .int .i64 u', .int .i64 v', .int .i64 p', .int .i64 q', .bool r', .bool f']] W fun e w' => e = .returned (.int .i64 z) ∧ Gr W w' := fun W => by
    have := rSq_any i x y u v p q r f i' x' y' u' v' p' q' r' f' W HB.out
    rw [HZ.out] at this
    exact this
  have HS := Lib.hid hsq; clear hsq
  go_enter Tryd.func30, Tryd.ntmps30
  go_wp2_with (first
    | (go_at_call 33; first | ((with_reducible refine (rValid_any i x y u v p q r f _).mono ?_); rintro e w1 ⟨rfl, hg⟩; have bA := hg.blk (n := w.heap.size) (cs := #[.int .i64 i, .int .i64 x, .int .i64 y, .int .i64 u, .int .i64 v, .int .i64 p, .int .i64 q, .bool r, .bool f]) (t := 25) (by repeat (first | with_reducible assumption | (with_reducible refine Blk.new ?_; simp; done) | with_reducible refine Blk.alloc ?_)); have bB := hg.blk (n := w.heap.size + 1) (cs := #[.int .i64 i', .int .i64 x', .int .i64 y', .int .i64 u', .int .i64 v', .int .i64 p', .int .i64 q', .bool r', .bool f']) (t := 25) (by repeat (first | with_reducible assumption | (with_reducible refine Blk.new ?_; simp; done) | with_reducible refine Blk.alloc ?_)); obtain ⟨aA, -⟩ := bA.facts; obtain ⟨aB, -⟩ := bB.facts) | ((with_reducible refine (rValid_any i' x' y' u' v' p' q' r' f' _).mono ?_); rintro e w2 ⟨rfl, hg2⟩; have bA2 := hg2.blk bA; have bB2 := hg2.blk bB; clear aA aB; obtain ⟨aA2, -⟩ := bA2.facts; obtain ⟨aB2, -⟩ := bB2.facts))
    | (go_at_call 39; ((with_reducible refine (HS.out _).mono ?_); rintro e w3 ⟨rfl, hg3⟩)))
  all_goals
    go_ret
    exact ⟨ret_bool (by rw [HO.out]; first | done | rfl | simp [*]), by repeat (first | with_reducible exact Gr.refl _ | with_reducible assumption | with_reducible refine Gr.alloc ?_ _ | with_reducible refine Gr.drew ?_ | with_reducible refine Gr.drewN ?_ _ | with_reducible refine Gr.trans ?_ (by assumption))⟩

theorem rMeet_any (i x y u v p q : Int) (r f : Bool) (i' x' y' u' v' p' q' : Int) (r' f' : Bool) (w : World)  :
    Calls Tryd.prog 30 #[.agg #[.int .i64 i, .int .i64 x, .int .i64 y, .int .i64 u, .int .i64 v, .int .i64 p, .int .i64 q, .bool r, .bool f], .agg #[.int .i64 i', .int .i64 x', .int .i64 y', .int .i64 u', .int .i64 v', .int .i64 p', .int .i64 q', .bool r', .bool f']] w
      fun e w' => e = .returned (.bool (meB i x y u v p q r f i' x' y' u' v' p' q' r' f')) ∧ Gr w w' := by
  cases h1 : vldB i x y u v p q r f
  · exact rMeet_no1 i x y u v p q r f i' x' y' u' v' p' q' r' f' w h1
  cases h2 : vldB i' x' y' u' v' p' q' r' f'
  · exact rMeet_no2 i x y u v p q r f i' x' y' u' v' p' q' r' f' w h1 h2
  exact rMeet_yes i x y u v p q r f i' x' y' u' v' p' q' r' f' w h1 h2

set_option maxHeartbeats 1000000 in
theorem rTouch_no1 (i x y u v p q : Int) (r f : Bool) (i' x' y' u' v' p' q' : Int) (r' f' : Bool) (w : World) (h1 : vldB i x y u v p q r f = false) :
    Calls Tryd.prog 31 #[.agg #[.int .i64 i, .int .i64 x, .int .i64 y, .int .i64 u, .int .i64 v, .int .i64 p, .int .i64 q, .bool r, .bool f], .agg #[.int .i64 i', .int .i64 x', .int .i64 y', .int .i64 u', .int .i64 v', .int .i64 p', .int .i64 q', .bool r', .bool f']] w
      fun e w' => e = .returned (.bool (toB i x y u v p q r f i' x' y' u' v' p' q' r' f')) ∧ Gr w w' := by
  have ho : toB i x y u v p q r f i' x' y' u' v' p' q' r' f' = false := by simp [toB, bothB, h1]
  have HO := Lib.hid ho; clear ho
  go_enter Tryd.func31, Tryd.ntmps31
  go_wp2_with (go_at_call 33; ((with_reducible refine (rValid_any i x y u v p q r f _).mono ?_); rintro e w1 ⟨rfl, hg⟩; have bA := hg.blk (n := w.heap.size) (cs := #[.int .i64 i, .int .i64 x, .int .i64 y, .int .i64 u, .int .i64 v, .int .i64 p, .int .i64 q, .bool r, .bool f]) (t := 25) (by repeat (first | with_reducible assumption | (with_reducible refine Blk.new ?_; simp; done) | with_reducible refine Blk.alloc ?_)); have bB := hg.blk (n := w.heap.size + 1) (cs := #[.int .i64 i', .int .i64 x', .int .i64 y', .int .i64 u', .int .i64 v', .int .i64 p', .int .i64 q', .bool r', .bool f']) (t := 25) (by repeat (first | with_reducible assumption | (with_reducible refine Blk.new ?_; simp; done) | with_reducible refine Blk.alloc ?_)); obtain ⟨aA, -⟩ := bA.facts; obtain ⟨aB, -⟩ := bB.facts))
  go_ret
  exact ⟨ret_bool HO.out.symm, by repeat (first | with_reducible exact Gr.refl _ | with_reducible assumption | with_reducible refine Gr.alloc ?_ _ | with_reducible refine Gr.drew ?_ | with_reducible refine Gr.drewN ?_ _ | with_reducible refine Gr.trans ?_ (by assumption))⟩

set_option maxHeartbeats 1000000 in
theorem rTouch_no2 (i x y u v p q : Int) (r f : Bool) (i' x' y' u' v' p' q' : Int) (r' f' : Bool) (w : World) (h1 : vldB i x y u v p q r f = true) (h2 : vldB i' x' y' u' v' p' q' r' f' = false) :
    Calls Tryd.prog 31 #[.agg #[.int .i64 i, .int .i64 x, .int .i64 y, .int .i64 u, .int .i64 v, .int .i64 p, .int .i64 q, .bool r, .bool f], .agg #[.int .i64 i', .int .i64 x', .int .i64 y', .int .i64 u', .int .i64 v', .int .i64 p', .int .i64 q', .bool r', .bool f']] w
      fun e w' => e = .returned (.bool (toB i x y u v p q r f i' x' y' u' v' p' q' r' f')) ∧ Gr w w' := by
  have ho : toB i x y u v p q r f i' x' y' u' v' p' q' r' f' = false := by simp [toB, bothB, h1, h2]
  have HO := Lib.hid ho; clear ho
  go_enter Tryd.func31, Tryd.ntmps31
  go_wp2_with (go_at_call 33; first | ((with_reducible refine (rValid_any i x y u v p q r f _).mono ?_); rintro e w1 ⟨rfl, hg⟩; have bA := hg.blk (n := w.heap.size) (cs := #[.int .i64 i, .int .i64 x, .int .i64 y, .int .i64 u, .int .i64 v, .int .i64 p, .int .i64 q, .bool r, .bool f]) (t := 25) (by repeat (first | with_reducible assumption | (with_reducible refine Blk.new ?_; simp; done) | with_reducible refine Blk.alloc ?_)); have bB := hg.blk (n := w.heap.size + 1) (cs := #[.int .i64 i', .int .i64 x', .int .i64 y', .int .i64 u', .int .i64 v', .int .i64 p', .int .i64 q', .bool r', .bool f']) (t := 25) (by repeat (first | with_reducible assumption | (with_reducible refine Blk.new ?_; simp; done) | with_reducible refine Blk.alloc ?_)); obtain ⟨aA, -⟩ := bA.facts; obtain ⟨aB, -⟩ := bB.facts) | ((with_reducible refine (rValid_any i' x' y' u' v' p' q' r' f' _).mono ?_); rintro e w2 ⟨rfl, hg2⟩; have bA2 := hg2.blk bA; have bB2 := hg2.blk bB; clear aA aB; obtain ⟨aA2, -⟩ := bA2.facts; obtain ⟨aB2, -⟩ := bB2.facts))
  go_ret
  exact ⟨ret_bool HO.out.symm, by repeat (first | with_reducible exact Gr.refl _ | with_reducible assumption | with_reducible refine Gr.alloc ?_ _ | with_reducible refine Gr.drew ?_ | with_reducible refine Gr.drewN ?_ _ | with_reducible refine Gr.trans ?_ (by assumption))⟩

set_option maxHeartbeats 1000000 in
theorem rTouch_yes (i x y u v p q : Int) (r f : Bool) (i' x' y' u' v' p' q' : Int) (r' f' : Bool) (w : World) (h1 : vldB i x y u v p q r f = true) (h2 : vldB i' x' y' u' v' p' q' r' f' = true) :
    Calls Tryd.prog 31 #[.agg #[.int .i64 i, .int .i64 x, .int .i64 y, .int .i64 u, .int .i64 v, .int .i64 p, .int .i64 q, .bool r, .bool f], .agg #[.int .i64 i', .int .i64 x', .int .i64 y', .int .i64 u', .int .i64 v', .int .i64 p', .int .i64 q', .bool r', .bool f']] w
      fun e w' => e = .returned (.bool (toB i x y u v p q r f i' x' y' u' v' p' q' r' f')) ∧ Gr w w' := by
  have hb : bothB i x y u v p q r f i' x' y' u' v' p' q' r' f' = true := by simp [bothB, h1, h2]
  have ho : toB i x y u v p q r f i' x' y' u' v' p' q' r' f' = decide (sqV x y p q r x' y' p' q' r' = 0) := by
    have hs := (both_sign hb).2.2
    simp only [toB, hb, Bool.true_and]
    exact decide_eq_decide.2 hs.symm
  generalize hz : sqV x y p q r x' y' p' q' r' = z at ho
  have HO := Lib.hid ho; have HB := Lib.hid hb; have HZ := Lib.hid hz; clear ho hb hz
  have hsq : ∀ W, Calls Tryd.prog 39 #[.agg #[.int .i64 i, .int .i64 x, .int .i64 y, .int .i64 u, .int .i64 v, .int .i64 p, .int .i64 q, .bool r, .bool f], .agg #[.int .i64 i', .int .i64 x', .int .i64 y', .int .i64 u', .int .i64 v', .int .i64 p', .int .i64 q', .bool r', .bool f']] W fun e w' => e = .returned (.int .i64 z) ∧ Gr W w' := fun W => by
    have := rSq_any i x y u v p q r f i' x' y' u' v' p' q' r' f' W HB.out
    rw [HZ.out] at this
    exact this
  have HS := Lib.hid hsq; clear hsq
  go_enter Tryd.func31, Tryd.ntmps31
  go_wp2_with (first
    | (go_at_call 33; first | ((with_reducible refine (rValid_any i x y u v p q r f _).mono ?_); rintro e w1 ⟨rfl, hg⟩; have bA := hg.blk (n := w.heap.size) (cs := #[.int .i64 i, .int .i64 x, .int .i64 y, .int .i64 u, .int .i64 v, .int .i64 p, .int .i64 q, .bool r, .bool f]) (t := 25) (by repeat (first | with_reducible assumption | (with_reducible refine Blk.new ?_; simp; done) | with_reducible refine Blk.alloc ?_)); have bB := hg.blk (n := w.heap.size + 1) (cs := #[.int .i64 i', .int .i64 x', .int .i64 y', .int .i64 u', .int .i64 v', .int .i64 p', .int .i64 q', .bool r', .bool f']) (t := 25) (by repeat (first | with_reducible assumption | (with_reducible refine Blk.new ?_; simp; done) | with_reducible refine Blk.alloc ?_)); obtain ⟨aA, -⟩ := bA.facts; obtain ⟨aB, -⟩ := bB.facts) | ((with_reducible refine (rValid_any i' x' y' u' v' p' q' r' f' _).mono ?_); rintro e w2 ⟨rfl, hg2⟩; have bA2 := hg2.blk bA; have bB2 := hg2.blk bB; clear aA aB; obtain ⟨aA2, -⟩ := bA2.facts; obtain ⟨aB2, -⟩ := bB2.facts))
    | (go_at_call 39; ((with_reducible refine (HS.out _).mono ?_); rintro e w3 ⟨rfl, hg3⟩)))
  all_goals
    go_ret
    exact ⟨ret_bool (by rw [HO.out]; first | done | rfl | simp [*]), by repeat (first | with_reducible exact Gr.refl _ | with_reducible assumption | with_reducible refine Gr.alloc ?_ _ | with_reducible refine Gr.drew ?_ | with_reducible refine Gr.drewN ?_ _ | with_reducible refine Gr.trans ?_ (by assumption))⟩

theorem rTouch_any (i x y u v p q : Int) (r f : Bool) (i' x' y' u' v' p' q' : Int) (r' f' : Bool) (w : World)  :
    Calls Tryd.prog 31 #[.agg #[.int .i64 i, .int .i64 x, .int .i64 y, .int .i64 u, .int .i64 v, .int .i64 p, .int .i64 q, .bool r, .bool f], .agg #[.int .i64 i', .int .i64 x', .int .i64 y', .int .i64 u', .int .i64 v', .int .i64 p', .int .i64 q', .bool r', .bool f']] w
      fun e w' => e = .returned (.bool (toB i x y u v p q r f i' x' y' u' v' p' q' r' f')) ∧ Gr w w' := by
  cases h1 : vldB i x y u v p q r f
  · exact rTouch_no1 i x y u v p q r f i' x' y' u' v' p' q' r' f' w h1
  cases h2 : vldB i' x' y' u' v' p' q' r' f'
  · exact rTouch_no2 i x y u v p q r f i' x' y' u' v' p' q' r' f' w h1 h2
  exact rTouch_yes i x y u v p q r f i' x' y' u' v' p' q' r' f' w h1 h2
end Go.Proofs.YtggcfjeehpcclaaDoor
