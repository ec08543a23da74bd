/- Facts on the bodies that Made makes. -/
import Derived.Test.YtggcfjeehpcclaaDoorR2
import Derived.Test.YtggcfjeehpcclaaDoorD5
import Derived.Test.YtggcfjeehpcclaaDoorD2
namespace Go.Proofs.YtggcfjeehpcclaaDoor
open Go.RowKit

theorem pick400 (x : Int) : -400 ≤ pickI x 801 - 400 ∧ pickI x 801 - 400 ≤ 400 := by
  have := pickI_bd (x := x) (n := 801) (by decide)
  omega
theorem pick300 (x : Int) : 1 ≤ 1 + pickI x 300 ∧ 1 + pickI x 300 ≤ 300 := by
  have := pickI_bd (x := x) (n := 300) (by decide)
  omega
theorem mkQ_bd (p q : Int) (r : Bool) : 1 ≤ mkQ p q r ∧ mkQ p q r ≤ 300 := by
  unfold mkQ
  have h1 := pick300 p
  have h2 := pick300 q
  split <;> omega
theorem mkQ_round (p q : Int) : mkQ p q true = 1 + pickI p 300 := rfl

/-- The numbers of a body that Made makes. -/
structure MadeOk (X Y P Q : Int) (r : Bool) : Prop where
  x1 : -400 ≤ X
  x2 : X ≤ 400
  y1 : -400 ≤ Y
  y2 : Y ≤ 400
  p1 : 1 ≤ P
  p2 : P ≤ 300
  q1 : 1 ≤ Q
  q2 : Q ≤ 300
  rd : r = true → P = Q
theorem made_ok (x y p q : Int) (r : Bool) : MadeOk (pickI x 801 - 400) (pickI y 801 - 400) (1 + pickI p 300) (mkQ p q r) r :=
  ⟨(pick400 x).1, (pick400 x).2, (pick400 y).1, (pick400 y).2, (pick300 p).1, (pick300 p).2, (mkQ_bd p q r).1, (mkQ_bd p q r).2, fun h => by subst h; rfl⟩
theorem MadeOk.valid {X Y P Q : Int} {r : Bool} (h : MadeOk X Y P Q r) : vldB 0 X Y 0 0 P Q r false = true :=
  vldB_iff.2 ⟨by omega, ⟨by have := h.x1; omega, by have := h.x2; omega⟩, ⟨by have := h.y1; omega, by have := h.y2; omega⟩, by omega, by omega, ⟨h.p1, by have := h.p2; omega⟩, ⟨h.q1, by have := h.q2; omega⟩, h.rd, fun h => by cases h⟩
theorem MadeOk.both {X Y P Q : Int} {r : Bool} {X' Y' P' Q' : Int} {r' : Bool} (h : MadeOk X Y P Q r) (h' : MadeOk X' Y' P' Q' r') : bothB 0 X Y 0 0 P Q r false 0 X' Y' 0 0 P' Q' r' false = true := by
  simp [bothB, h.valid, h'.valid]
theorem me_iff {i x y u v p q : Int} {r f : Bool} {i' x' y' u' v' p' q' : Int} {r' f' : Bool} (h : bothB i x y u v p q r f i' x' y' u' v' p' q' r' f' = true) : meB i x y u v p q r f i' x' y' u' v' p' q' r' f' = true ↔ farV x y p q r x' y' p' q' r' ≤ 0 := by simp [meB, h]
theorem ov_iff {i x y u v p q : Int} {r f : Bool} {i' x' y' u' v' p' q' : Int} {r' f' : Bool} (h : bothB i x y u v p q r f i' x' y' u' v' p' q' r' f' = true) : ovB i x y u v p q r f i' x' y' u' v' p' q' r' f' = true ↔ farV x y p q r x' y' p' q' r' < 0 := by simp [ovB, h]
theorem to_iff {i x y u v p q : Int} {r f : Bool} {i' x' y' u' v' p' q' : Int} {r' f' : Bool} (h : bothB i x y u v p q r f i' x' y' u' v' p' q' r' f' = true) : toB i x y u v p q r f i' x' y' u' v' p' q' r' f' = true ↔ farV x y p q r x' y' p' q' r' = 0 := by simp [toB, h]

/-! ### The bounds of two bodies -/
def meetC (X Y P Q X' Y' P' Q' : Int) : Bool := decide (X - P ≤ X' + P') && decide (X' - P' ≤ X + P) && decide (Y - Q ≤ Y' + Q') && decide (Y' - Q' ≤ Y + Q)
def overC (X Y P Q X' Y' P' Q' : Int) : Bool := decide (X - P < X' + P') && decide (X' - P' < X + P) && decide (Y - Q < Y' + Q') && decide (Y' - Q' < Y + Q)

theorem sq_le {a b : Int} (h0 : 0 ≤ a) (h : a ≤ b) : a * a ≤ b * b := Int.mul_le_mul h h h0 (by omega)
theorem sq_lt {a b : Int} (h0 : 0 ≤ a) (h : a < b) : a * a < b * b := by
  have h1 : a * a ≤ a * b := Int.mul_le_mul_of_nonneg_left (by omega) h0
  have h2 : a * b < b * b := Int.mul_lt_mul_of_pos_right h (by omega)
  omega
theorem le_of_sq {a b : Int} (hb : 0 ≤ b) (h : a * a ≤ b * b) : a ≤ b := by
  rcases Int.lt_or_le b a with h1 | h1
  · have := sq_lt hb h1; omega
  · exact h1
theorem lt_of_sq {a b : Int} (hb : 0 ≤ b) (h : a * a < b * b) : a < b := by
  rcases Int.lt_or_le a b with h1 | h1
  · exact h1
  · have := sq_le hb h1; omega
theorem sq_nn (a : Int) : 0 ≤ a * a := by
  rcases Int.le_total 0 a with h | h
  · exact Int.mul_nonneg h h
  · rw [← Int.neg_mul_neg]; exact Int.mul_nonneg (by omega) (by omega)

theorem absq (d : Int) : max d (-d) * max d (-d) = d * d := by
  rcases Int.le_total 0 d with h | h
  · rw [show max d (-d) = d from by omega]
  · rw [show max d (-d) = -d from by omega, Int.neg_mul_neg]

/-- What meets, meets in its bounds; what overlaps, overlaps in its bounds. -/
theorem far_bounds {X Y P Q : Int} {r : Bool} {X' Y' P' Q' : Int} {r' : Bool} (h : MadeOk X Y P Q r) (h' : MadeOk X' Y' P' Q' r') :
    (farV X Y P Q r X' Y' P' Q' r' ≤ 0 → max (X - X') (-(X - X')) ≤ P + P' ∧ max (Y - Y') (-(Y - Y')) ≤ Q + Q') ∧
    (farV X Y P Q r X' Y' P' Q' r' < 0 → max (X - X') (-(X - X')) < P + P' ∧ max (Y - Y') (-(Y - Y')) < Q + Q') := by
  obtain ⟨-, -, -, -, p1, -, q1, -, rd⟩ := h
  obtain ⟨-, -, -, -, p1', -, q1', -, rd'⟩ := h'
  unfold farV roomV
  generalize max (X - X') (-(X - X')) = A
  generalize max (Y - Y') (-(Y - Y')) = B
  cases r <;> cases r'
  · simp only [Bool.false_eq_true, if_false]; omega
  · have e := rd' rfl
    subst e
    simp only [Bool.false_eq_true, if_false, if_true]
    have n1 := sq_nn (max (A - P) 0)
    have n2 := sq_nn (max (B - Q) 0)
    refine ⟨fun hh => ?_, fun hh => ?_⟩
    · have k1 := le_of_sq (a := max (A - P) 0) (b := P') (by omega) (by omega)
      have k2 := le_of_sq (a := max (B - Q) 0) (b := P') (by omega) (by omega)
      omega
    · have k1 := lt_of_sq (a := max (A - P) 0) (b := P') (by omega) (by omega)
      have k2 := lt_of_sq (a := max (B - Q) 0) (b := P') (by omega) (by omega)
      omega
  · have e := rd rfl
    subst e
    simp only [Bool.false_eq_true, if_false, if_true]
    have n1 := sq_nn (max (A - P') 0)
    have n2 := sq_nn (max (B - Q') 0)
    refine ⟨fun hh => ?_, fun hh => ?_⟩
    · have k1 := le_of_sq (a := max (A - P') 0) (b := P) (by omega) (by omega)
      have k2 := le_of_sq (a := max (B - Q') 0) (b := P) (by omega) (by omega)
      omega
    · have k1 := lt_of_sq (a := max (A - P') 0) (b := P) (by omega) (by omega)
      have k2 := lt_of_sq (a := max (B - Q') 0) (b := P) (by omega) (by omega)
      omega
  · have e := rd rfl
    have e' := rd' rfl
    subst e e'
    simp only [if_true]
    have n1 := sq_nn A
    have n2 := sq_nn B
    refine ⟨fun hh => ?_, fun hh => ?_⟩
    · have k1 := le_of_sq (a := A) (b := P + P') (by omega) (by omega)
      have k2 := le_of_sq (a := B) (b := P + P') (by omega) (by omega)
      omega
    · have k1 := lt_of_sq (a := A) (b := P + P') (by omega) (by omega)
      have k2 := lt_of_sq (a := B) (b := P + P') (by omega) (by omega)
      omega
end Go.Proofs.YtggcfjeehpcclaaDoor
