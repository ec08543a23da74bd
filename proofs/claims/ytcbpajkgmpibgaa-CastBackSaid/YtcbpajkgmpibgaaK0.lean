/- Places of a segment: how they compare. -/
import Derived.Test.YtcbpajkgmpibgaaG18
namespace Go.Proofs.Ytcbpajkgmpibgaa

structure Plc where
  n : Int
  s : Int
  m : Int
def cmpI (x y : Int) : Int := if x < y then -1 else if y < x then 1 else 0
/-- The comparison where the second place has no root. -/
def ordR (a b : Plc) : Int := if 0 ≤ a.n * b.m - b.n * a.m then cmpI ((a.n * b.m - b.n * a.m) * (a.n * b.m - b.n * a.m)) (b.m * b.m * a.s) else -1
/-- .. where both have roots, and the first numerator is not less. -/
def ordB (a b : Plc) : Int := if a.s - b.s - (a.n - b.n) * (a.n - b.n) < 0 then 1 else cmpI (4 * (a.n - b.n) * (a.n - b.n) * b.s) ((a.s - b.s - (a.n - b.n) * (a.n - b.n)) * (a.s - b.s - (a.n - b.n) * (a.n - b.n)))
def ordP (a b : Plc) : Int :=
  if a.s = 0 ∧ b.s = 0 then cmpI (a.n * b.m) (b.n * a.m)
  else if b.s = 0 then ordR a b
  else if a.s = 0 then - ordR b a
  else if a.n < b.n then - ordB b a
  else ordB a b

theorem cmpI_neg (x y : Int) : cmpI y x = - cmpI x y := by unfold cmpI; grind
theorem cmpI_le {x y : Int} : cmpI x y ≤ 0 ↔ x ≤ y := by unfold cmpI; grind
theorem cmpI_lt {x y : Int} : cmpI x y < 0 ↔ x < y := by unfold cmpI; grind

theorem sq_nn (x : Int) : 0 ≤ x * x := by
  rcases Int.le_total 0 x with k | k
  · exact Int.mul_nonneg k k
  · exact Int.mul_nonneg_of_nonpos_of_nonpos k k
theorem sq_le {x y : Int} (h : 0 ≤ x) (k : x ≤ y) : x * x ≤ y * y := Int.mul_le_mul k k h (Int.le_trans h k)
theorem sq_lt {x y : Int} (h : 0 ≤ x) (k : x < y) : x * x < y * y := by
  have := Int.mul_le_mul_of_nonneg_left (Int.le_of_lt k) h
  have := Int.mul_lt_mul_of_pos_right k (by omega : 0 < y)
  omega
theorem of_sq {x y : Int} (h : 0 ≤ y) (k : x * x ≤ y * y) : x ≤ y := by
  by_cases e : x ≤ y
  · exact e
  · have := sq_lt h (Int.not_le.1 e); omega
theorem ordB_same {a b : Plc} (h : a.n = b.n) : ordB b a = - ordB a b := by
  have e : a.n - b.n = 0 := by omega
  have e' : b.n - a.n = 0 := by omega
  unfold ordB cmpI
  rw [e, e']
  simp only [Int.mul_zero, Int.zero_mul, Int.sub_zero]
  by_cases h1 : a.s - b.s < 0
  · have := Int.mul_pos (by omega : 0 < b.s - a.s) (by omega : 0 < b.s - a.s)
    rw [if_pos h1, if_neg (by omega), if_pos (by omega)]
  · by_cases h2 : b.s - a.s < 0
    · have := Int.mul_pos (by omega : 0 < a.s - b.s) (by omega : 0 < a.s - b.s)
      rw [if_pos h2, if_neg h1, if_pos (by omega)]; rfl
    · have : a.s - b.s = 0 := by omega
      have k : b.s - a.s = 0 := by omega
      rw [this, k]; rfl
theorem ordP_neg (a b : Plc) : ordP b a = - ordP a b := by
  unfold ordP
  by_cases ha : a.s = 0 <;> by_cases hb : b.s = 0
  · simp only [ha, hb, and_self, if_true]; exact cmpI_neg _ _
  · simp [ha, hb]
  · simp [ha, hb]
  · simp only [ha, hb, false_and, if_false]
    by_cases h1 : a.n < b.n
    · rw [if_neg (by omega), if_pos h1]; simp
    · by_cases h2 : b.n < a.n
      · rw [if_pos h2, if_neg h1]
      · rw [if_neg h2, if_neg h1]
        exact ordB_same (by omega)

/-- (n - sqrt s) / m is at most a / b. -/
def Plc.le (w : Plc) (a b : Int) : Prop := w.n * b - a * w.m ≤ 0 ∨ (w.n * b - a * w.m) * (w.n * b - a * w.m) ≤ b * b * w.s
theorem Plc.le_flat {w : Plc} (h : w.s = 0) {a b : Int} : w.le a b ↔ w.n * b ≤ a * w.m := by
  unfold Plc.le
  rw [h, Int.mul_zero]
  constructor
  · rintro (h | h)
    · omega
    · have := sq_nn (w.n * b - a * w.m)
      have : (w.n * b - a * w.m) * (w.n * b - a * w.m) = 0 := by omega
      rcases Int.mul_eq_zero.1 this with e | e <;> omega
  · intro h; left; omega
theorem ordR_le {x y : Plc} (hs : 0 ≤ x.s) : ordR x y ≤ 0 ↔ x.le y.n y.m := by
  unfold ordR Plc.le
  split
  · rw [cmpI_le]
    constructor
    · exact .inr
    · rintro (h | h)
      · have e : x.n * y.m - y.n * x.m = 0 := by omega
        rw [e]
        have := Int.mul_nonneg (sq_nn y.m) hs
        omega
      · exact h
  · constructor
    · intro _; left; omega
    · intro _; decide
theorem ordP_le {w : Plc} (hs : 0 ≤ w.s) {a b : Int} : ordP w ⟨a, 0, b⟩ ≤ 0 ↔ w.le a b := by
  unfold ordP
  by_cases h : w.s = 0
  · simp only [h, and_self, if_true]
    rw [cmpI_le, Plc.le_flat h]
  · simp only [h, false_and, if_false, if_true]
    exact ordR_le (y := ⟨a, 0, b⟩) hs
/-- A greater number. -/
theorem Plc.le_mono {w : Plc} (hm : 0 < w.m) {a b a' b' : Int} (hb : 0 < b) (hb' : 0 < b') (h : w.le a b) (k : a * b' ≤ a' * b) : w.le a' b' := by
  unfold Plc.le at *
  have key : (w.n * b' - a' * w.m) * b ≤ (w.n * b - a * w.m) * b' := by
    have := Int.mul_le_mul_of_nonneg_right k (Int.le_of_lt hm)
    grind
  generalize w.n * b' - a' * w.m = N' at *
  generalize w.n * b - a * w.m = N at *
  by_cases hN' : N' ≤ 0
  · exact .inl hN'
  right
  have hN : 0 < N := by
    by_cases e : 0 < N
    · exact e
    · have h1 := Int.mul_pos (by omega : 0 < N') hb
      have h2 := Int.mul_nonneg (by omega : 0 ≤ -N) (Int.le_of_lt hb')
      grind
  have h1 := h.resolve_left (by omega)
  have h2 := sq_le (Int.le_of_lt (Int.mul_pos (by omega : 0 < N') hb)) key
  have h3 := Int.mul_le_mul_of_nonneg_right h1 (sq_nn b')
  have h4 : (N' * N') * (b * b) ≤ (b' * b' * w.s) * (b * b) := by grind
  exact Int.le_of_mul_le_mul_right h4 (Int.mul_pos hb hb)
/-- (n - sqrt s) / m is less than a / b. -/
def Plc.lt (w : Plc) (a b : Int) : Prop := w.n * b - a * w.m < 0 ∨ (w.n * b - a * w.m) * (w.n * b - a * w.m) < b * b * w.s
theorem ordP_lt {w : Plc} (hs : 0 ≤ w.s) {a b : Int} (hb : 0 < b) : ordP w ⟨a, 0, b⟩ < 0 ↔ w.lt a b := by
  unfold ordP Plc.lt
  have nn := sq_nn (w.n * b - a * w.m)
  by_cases h : w.s = 0
  · simp only [h, and_self, if_true]
    rw [cmpI_lt, Int.mul_zero]
    constructor
    · intro h; left; omega
    · rintro (h | h) <;> omega
  · simp only [h, false_and, if_false, if_true]
    unfold ordR
    simp only
    split
    · rw [cmpI_lt]
      constructor
      · exact .inr
      · rintro (h | h)
        · omega
        · exact h
    · constructor
      · intro _; left; omega
      · intro _; decide
theorem Plc.lt_mono {w : Plc} (hm : 0 < w.m) {a b a' b' : Int} (hb : 0 < b) (hb' : 0 < b') (h : w.lt a b) (k : a * b' ≤ a' * b) : w.lt a' b' := by
  unfold Plc.lt at *
  have key : (w.n * b' - a' * w.m) * b ≤ (w.n * b - a * w.m) * b' := by
    have := Int.mul_le_mul_of_nonneg_right k (Int.le_of_lt hm)
    grind
  generalize w.n * b' - a' * w.m = N' at *
  generalize w.n * b - a * w.m = N at *
  by_cases hN' : N' < 0
  · exact .inl hN'
  right
  have h0 := Int.mul_nonneg (by omega : 0 ≤ N') (Int.le_of_lt hb)
  have hN : 0 ≤ N := by
    by_cases e : 0 ≤ N
    · exact e
    · have h2 := Int.mul_pos (by omega : 0 < -N) hb'
      grind
  have h1 := h.resolve_left (by omega)
  have h2 := sq_le h0 key
  have h3 := Int.mul_lt_mul_of_pos_right h1 (Int.mul_pos hb' hb')
  have h4 : (N' * N') * (b * b) < (b' * b' * w.s) * (b * b) := by grind
  exact Int.lt_of_mul_lt_mul_right h4 (sq_nn b)
theorem Plc.le_lt {w : Plc} (hm : 0 < w.m) {a b a' b' : Int} (hb : 0 < b) (hb' : 0 < b') (h : w.le a b) (k : a * b' < a' * b) : w.lt a' b' := by
  unfold Plc.le at h
  unfold Plc.lt
  have key : (w.n * b' - a' * w.m) * b < (w.n * b - a * w.m) * b' := by
    have := Int.mul_lt_mul_of_pos_right k hm
    grind
  generalize w.n * b' - a' * w.m = N' at *
  generalize w.n * b - a * w.m = N at *
  by_cases hN' : N' < 0
  · exact .inl hN'
  right
  have h0 := Int.mul_nonneg (by omega : 0 ≤ N') (Int.le_of_lt hb)
  have hN : 0 < N := by
    by_cases e : 0 < N
    · exact e
    · have h2 := Int.mul_nonneg (by omega : 0 ≤ -N) (Int.le_of_lt hb')
      grind
  have h1 := h.resolve_left (by omega)
  have h2 := sq_lt h0 key
  have h3 := Int.mul_le_mul_of_nonneg_right h1 (sq_nn b')
  have h4 : (N' * N') * (b * b) < (b' * b' * w.s) * (b * b) := by grind
  exact Int.lt_of_mul_lt_mul_right h4 (sq_nn b)
theorem Plc.lt_le {w : Plc} {a b : Int} (h : w.lt a b) : w.le a b := by
  unfold Plc.lt at h
  unfold Plc.le
  omega
theorem ordB_le {x y : Plc} : ordB x y ≤ 0 ↔ 0 ≤ x.s - y.s - (x.n - y.n) * (x.n - y.n) ∧ 4 * (x.n - y.n) * (x.n - y.n) * y.s ≤ (x.s - y.s - (x.n - y.n) * (x.n - y.n)) * (x.s - y.s - (x.n - y.n) * (x.n - y.n)) := by
  unfold ordB
  split
  · constructor
    · intro h; exact absurd h (by decide)
    · intro h; omega
  · rw [cmpI_le]; constructor
    · exact fun h => ⟨by omega, h⟩
    · exact fun h => h.2
theorem ordB_ge {x y : Plc} : 0 ≤ ordB x y ↔ x.s - y.s - (x.n - y.n) * (x.n - y.n) < 0 ∨ (x.s - y.s - (x.n - y.n) * (x.n - y.n)) * (x.s - y.s - (x.n - y.n) * (x.n - y.n)) ≤ 4 * (x.n - y.n) * (x.n - y.n) * y.s := by
  unfold ordB
  split
  · rename_i h
    exact ⟨fun _ => .inl h, fun _ => by decide⟩
  · rename_i h
    rw [cmpI_neg, Int.neg_nonneg, cmpI_le]
    exact ⟨.inr, fun k => k.resolve_left h⟩
/-- Both have roots; the first numerator is not less. -/
theorem rootA {N1 N2 D S1 S2 : Int} (e : N1 = N2 + D) (h2 : 0 ≤ S2) (hE : 0 ≤ S1 - S2 - D * D) (hq : 4 * D * D * S2 ≤ (S1 - S2 - D * D) * (S1 - S2 - D * D)) (h : N2 ≤ 0 ∨ N2 * N2 ≤ S2) : N1 ≤ 0 ∨ N1 * N1 ≤ S1 := by
  by_cases h1 : N1 ≤ 0
  · exact .inl h1
  right
  by_cases k : N2 ≤ 0
  · have := sq_le (by omega : 0 ≤ N1) (by omega : N1 ≤ D); omega
  have h := h.resolve_left k
  have : 2 * N2 * D ≤ S1 - S2 - D * D := by
    refine of_sq hE (Int.le_trans ?_ hq)
    have := Int.mul_le_mul_of_nonneg_left h (sq_nn (2 * D))
    grind
  have e2 : N1 * N1 = N2 * N2 + 2 * N2 * D + D * D := by subst e; grind
  omega
theorem rootB {N1 N2 D S1 S2 : Int} (hD : 0 < D) (e : N2 = N1 + D) (hq : S2 - S1 - D * D < 0 ∨ (S2 - S1 - D * D) * (S2 - S1 - D * D) ≤ 4 * D * D * S1) (h : N2 ≤ 0 ∨ N2 * N2 ≤ S2) : N1 ≤ 0 ∨ N1 * N1 ≤ S1 := by
  by_cases h1 : N1 ≤ 0
  · exact .inl h1
  right
  have h := h.resolve_left (by omega)
  have hp := Int.mul_pos (by omega : 0 < N1) hD
  have h5 : N1 * N1 + 2 * (N1 * D) ≤ (S2 - S1 - D * D) + S1 := by subst e; grind
  rcases hq with hq | hq
  · omega
  by_cases k : N1 * N1 ≤ S1
  · exact k
  exfalso
  have h6 : 2 * (N1 * D) < S2 - S1 - D * D := by omega
  have h7 := sq_lt (by omega) h6
  have h8 := Int.mul_lt_mul_of_pos_right (by omega : S1 < N1 * N1) (Int.mul_pos hD hD)
  grind
/-- What comes before it, is not greater. -/
theorem ord_trans {x y : Plc} (hxm : 0 < x.m) (hym : 0 < y.m) (hxs : 0 ≤ x.s) (hys : 0 ≤ y.s) (hm : x.s ≠ 0 → y.s ≠ 0 → x.m = y.m) {a b : Int} (hb : 0 < b) (h : ordP x y ≤ 0) (k : y.le a b) : x.le a b := by
  by_cases hx : x.s = 0 <;> by_cases hy : y.s = 0
  · unfold ordP at h
    simp only [hx, hy, and_self, if_true] at h
    rw [cmpI_le] at h
    rw [Plc.le_flat hy] at k
    rw [Plc.le_flat hx]
    have h1 := Int.mul_le_mul_of_nonneg_right h (Int.le_of_lt hb)
    have h2 := Int.mul_le_mul_of_nonneg_right k (Int.le_of_lt hxm)
    have h3 : x.n * b * y.m ≤ a * x.m * y.m := by grind
    exact Int.le_of_mul_le_mul_right h3 hym
  · unfold ordP at h
    simp only [hx, hy, and_false, if_false, if_true] at h
    rw [Plc.le_flat hx]
    have hW : 0 ≤ ordR y x := by omega
    unfold ordR at hW
    split at hW
    rotate_left
    · exact absurd hW (by decide)
    rename_i hW0
    rw [cmpI_neg, Int.neg_nonneg, cmpI_le] at hW
    by_cases e : x.n * b ≤ a * x.m
    · exact e
    exfalso
    unfold Plc.le at k
    have h1 := Int.mul_pos hym (by omega : 0 < x.n * b - a * x.m)
    have h2 : b * (y.n * x.m - x.n * y.m) < (y.n * b - a * y.m) * x.m := by grind
    have h3 := Int.mul_nonneg (Int.le_of_lt hb) hW0
    have h4 := sq_lt h3 h2
    rcases k with k | k
    · have := Int.mul_nonneg (by omega : 0 ≤ -(y.n * b - a * y.m)) (Int.le_of_lt hxm)
      have e2 : -(y.n * b - a * y.m) * x.m = - ((y.n * b - a * y.m) * x.m) := by grind
      omega
    · have h5 := Int.mul_le_mul_of_nonneg_right k (sq_nn x.m)
      have h6 := Int.mul_le_mul_of_nonneg_left hW (sq_nn b)
      grind
  · unfold ordP at h
    simp only [hx, hy, false_and, if_false, if_true] at h
    rw [ordR_le hxs] at h
    rw [Plc.le_flat hy] at k
    exact Plc.le_mono hxm hym hb h k
  · unfold ordP at h
    simp only [hx, hy, false_and, if_false] at h
    have hm := hm hx hy
    unfold Plc.le at k ⊢
    rw [hm]
    have hbb : 0 ≤ b * b := sq_nn b
    split at h
    · rename_i hn
      rw [Int.neg_nonpos_iff, ordB_ge] at h
      refine rootB (D := (y.n - x.n) * b) (Int.mul_pos (by omega) hb) (by grind) ?_ k
      rcases h with h | h
      · left
        have := Int.mul_pos (Int.mul_pos hb hb) (by omega : 0 < -(y.s - x.s - (y.n - x.n) * (y.n - x.n)))
        grind
      · right
        have := Int.mul_le_mul_of_nonneg_left h (Int.mul_nonneg hbb hbb)
        grind
    · rename_i hn
      rw [ordB_le] at h
      refine rootA (D := (x.n - y.n) * b) (by grind) (Int.mul_nonneg hbb hys) ?_ ?_ k
      · have := Int.mul_nonneg hbb h.1
        grind
      · have := Int.mul_le_mul_of_nonneg_left h.2 (Int.mul_nonneg hbb hbb)
        grind
end Go.Proofs.Ytcbpajkgmpibgaa
