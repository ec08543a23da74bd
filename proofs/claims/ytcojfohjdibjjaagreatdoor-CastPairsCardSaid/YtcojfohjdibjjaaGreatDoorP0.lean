/- Places of a segment: how they compare. The seat's types and ground, for the symbolic executor with lists. -/
import Derived.Test.YtcojfohjdibjjaaGreatDoorG18
import Derived.Test.YtcojfohjdibjjaaGreatDoorG17
namespace Go.Proofs.YtcojfohjdibjjaaGreatDoor

structure Plc where
  n : Int
  s : Int
  m : Int
def cmpI (x y : Int) : Int := if x < y then -1 else if y < x then 1 else 0
/-- The comparison where the second place has no root. -/
def ordR (a b : Plc) : Int := if 0 ≤ a.n * b.m - b.n * a.m then cmpI ((a.n * b.m - b.n * a.m) * (a.n * b.m - b.n * a.m)) (b.m * b.m * a.s) else -1
/-- .. where both have roots, and the first numerator is not less. -/
def ordB (a b : Plc) : Int := if a.s - b.s - (a.n - b.n) * (a.n - b.n) < 0 then 1 else cmpI (4 * (a.n - b.n) * (a.n - b.n) * b.s) ((a.s - b.s - (a.n - b.n) * (a.n - b.n)) * (a.s - b.s - (a.n - b.n) * (a.n - b.n)))
def ordP (a b : Plc) : Int :=
  if a.s = 0 ∧ b.s = 0 then cmpI (a.n * b.m) (b.n * a.m)
  else if b.s = 0 then ordR a b
  else if a.s = 0 then - ordR b a
  else if a.n < b.n then - ordB b a
  else ordB a b

theorem cmpI_neg (x y : Int) : cmpI y x = - cmpI x y := by unfold cmpI; grind
theorem cmpI_le {x y : Int} : cmpI x y ≤ 0 ↔ x ≤ y := by unfold cmpI; grind
theorem cmpI_lt {x y : Int} : cmpI x y < 0 ↔ x < y := by unfold cmpI; grind

theorem sq_nn (x : Int) : 0 ≤ x * x := by
  rcases Int.le_total 0 x with k | k
  · exact Int.mul_nonneg k k
  · exact Int.mul_nonneg_of_nonpos_of_nonpos k k
theorem sq_le {x y : Int} (h : 0 ≤ x) (k : x ≤ y) : x * x ≤ y * y := Int.mul_le_mul k k h (Int.le_trans h k)
theorem sq_lt {x y : Int} (h : 0 ≤ x) (k : x < y) : x * x < y * y := by
  have := Int.mul_le_mul_of_nonneg_left (Int.le_of_lt k) h
  have := Int.mul_lt_mul_of_pos_right k (by omega : 0 < y)
  omega
theorem of_sq {x y : Int} (h : 0 ≤ y) (k : x * x ≤ y * y) : x ≤ y := by
  by_cases e : x ≤ y
  · exact e
  · have := sq_lt h (Int.not_le.1 e); omega
theorem ordB_same {a b : Plc} (h : a.n = b.n) : ordB b a = - ordB a b := by
  have e : a.n - b.n = 0 := by omega
  have e' : b.n - a.n = 0 := by omega
  unfold ordB cmpI
  rw [e, e']
  simp only [Int.mul_zero, Int.zero_mul, Int.sub_zero]
  by_cases h1 : a.s - b.s < 0
  · have := Int.mul_pos (by omega : 0 < b.s - a.s) (by omega : 0 < b.s - a.s)
    rw [if_pos h1, if_neg (by omega), if_pos (by omega)]
  · by_cases h2 : b.s - a.s < 0
    · have := Int.mul_pos (by omega : 0 < a.s - b.s) (by omega : 0 < a.s - b.s)
      rw [if_pos h2, if_neg h1, if_pos (by omega)]; rfl
    · have : a.s - b.s = 0 := by omega
      have k : b.s - a.s = 0 := by omega
      rw [this, k]; rfl
theorem ordP_neg (a b : Plc) : ordP b a = - ordP a b := by
  unfold ordP
  by_cases ha : a.s = 0 <;> by_cases hb : b.s = 0
  · simp only [ha, hb, and_self, if_true]; exact cmpI_neg _ _
  · simp [ha, hb]
  · simp [ha, hb]
  · simp only [ha, hb, false_and, if_false]
    by_cases h1 : a.n < b.n
    · rw [if_neg (by omega), if_pos h1]; simp
    · by_cases h2 : b.n < a.n
      · rw [if_pos h2, if_neg h1]
      · rw [if_neg h2, if_neg h1]
        exact ordB_same (by omega)

/-- (n - sqrt s) / m is at most a / b. -/
def Plc.le (w : Plc) (a b : Int) : Prop := w.n * b - a * w.m ≤ 0 ∨ (w.n * b - a * w.m) * (w.n * b - a * w.m) ≤ b * b * w.s
theorem Plc.le_flat {w : Plc} (h : w.s = 0) {a b : Int} : w.le a b ↔ w.n * b ≤ a * w.m := by
  unfold Plc.le
  rw [h, Int.mul_zero]
  constructor
  · rintro (h | h)
    · omega
    · have := sq_nn (w.n * b - a * w.m)
      have : (w.n * b - a * w.m) * (w.n * b - a * w.m) = 0 := by omega
      rcases Int.mul_eq_zero.1 this with e | e <;> omega
  · intro h; left; omega
theorem ordR_le {x y : Plc} (hs : 0 ≤ x.s) : ordR x y ≤ 0 ↔ x.le y.n y.m := by
  unfold ordR Plc.le
  split
  · rw [cmpI_le]
    constructor
    · exact .inr
    · rintro (h | h)
      · have e : x.n * y.m - y.n * x.m = 0 := by omega
        rw [e]
        have := Int.mul_nonneg (sq_nn y.m) hs
        omega
      · exact h
  · constructor
    · intro _; left; omega
    · intro _; decide
theorem ordP_le {w : Plc} (hs : 0 ≤ w.s) {a b : Int} : ordP w ⟨a, 0, b⟩ ≤ 0 ↔ w.le a b := by
  unfold ordP
  by_cases h : w.s = 0
  · simp only [h, and_self, if_true]
    rw [cmpI_le, Plc.le_flat h]
  · simp only [h, false_and, if_false, if_true]
    exact ordR_le (y := ⟨a, 0, b⟩) hs
/-- A greater number. -/
theorem Plc.le_mono {w : Plc} (hm : 0 < w.m) {a b a' b' : Int} (hb : 0 < b) (hb' : 0 < b') (h : w.le a b) (k : a * b' ≤ a' * b) : w.le a' b' := by
  unfold Plc.le at *
  have key : (w.n * b' - a' * w.m) * b ≤ (w.n * b - a * w.m) * b' := by
    have := Int.mul_le_mul_of_nonneg_right k (Int.le_of_lt hm)
    grind
  generalize w.n * b' - a' * w.m = N' at *
  generalize w.n * b - a * w.m = N at *
  by_cases hN' : N' ≤ 0
  · exact .inl hN'
  right
  have hN : 0 < N := by
    by_cases e : 0 < N
    · exact e
    · have h1 := Int.mul_pos (by omega : 0 < N') hb
      have h2 := Int.mul_nonneg (by omega : 0 ≤ -N) (Int.le_of_lt hb')
      grind
  have h1 := h.resolve_left (by omega)
  have h2 := sq_le (Int.le_of_lt (Int.mul_pos (by omega : 0 < N') hb)) key
  have h3 := Int.mul_le_mul_of_nonneg_right h1 (sq_nn b')
  have h4 : (N' * N') * (b * b) ≤ (b' * b' * w.s) * (b * b) := by grind
  exact Int.le_of_mul_le_mul_right h4 (Int.mul_pos hb hb)
/-- (n - sqrt s) / m is less than a / b. -/
def Plc.lt (w : Plc) (a b : Int) : Prop := w.n * b - a * w.m < 0 ∨ (w.n * b - a * w.m) * (w.n * b - a * w.m) < b * b * w.s
theorem ordP_lt {w : Plc} (hs : 0 ≤ w.s) {a b : Int} (hb : 0 < b) : ordP w ⟨a, 0, b⟩ < 0 ↔ w.lt a b := by
  unfold ordP Plc.lt
  have nn := sq_nn (w.n * b - a * w.m)
  by_cases h : w.s = 0
  · simp only [h, and_self, if_true]
    rw [cmpI_lt, Int.mul_zero]
    constructor
    · intro h; left; omega
    · rintro (h | h) <;> omega
  · simp only [h, false_and, if_false, if_true]
    unfold ordR
    simp only
    split
    · rw [cmpI_lt]
      constructor
      · exact .inr
      · rintro (h | h)
        · omega
        · exact h
    · constructor
      · intro _; left; omega
      · intro _; decide
theorem Plc.lt_mono {w : Plc} (hm : 0 < w.m) {a b a' b' : Int} (hb : 0 < b) (hb' : 0 < b') (h : w.lt a b) (k : a * b' ≤ a' * b) : w.lt a' b' := by
  unfold Plc.lt at *
  have key : (w.n * b' - a' * w.m) * b ≤ (w.n * b - a * w.m) * b' := by
    have := Int.mul_le_mul_of_nonneg_right k (Int.le_of_lt hm)
    grind
  generalize w.n * b' - a' * w.m = N' at *
  generalize w.n * b - a * w.m = N at *
  by_cases hN' : N' < 0
  · exact .inl hN'
  right
  have h0 := Int.mul_nonneg (by omega : 0 ≤ N') (Int.le_of_lt hb)
  have hN : 0 ≤ N := by
    by_cases e : 0 ≤ N
    · exact e
    · have h2 := Int.mul_pos (by omega : 0 < -N) hb'
      grind
  have h1 := h.resolve_left (by omega)
  have h2 := sq_le h0 key
  have h3 := Int.mul_lt_mul_of_pos_right h1 (Int.mul_pos hb' hb')
  have h4 : (N' * N') * (b * b) < (b' * b' * w.s) * (b * b) := by grind
  exact Int.lt_of_mul_lt_mul_right h4 (sq_nn b)
theorem Plc.le_lt {w : Plc} (hm : 0 < w.m) {a b a' b' : Int} (hb : 0 < b) (hb' : 0 < b') (h : w.le a b) (k : a * b' < a' * b) : w.lt a' b' := by
  unfold Plc.le at h
  unfold Plc.lt
  have key : (w.n * b' - a' * w.m) * b < (w.n * b - a * w.m) * b' := by
    have := Int.mul_lt_mul_of_pos_right k hm
    grind
  generalize w.n * b' - a' * w.m = N' at *
  generalize w.n * b - a * w.m = N at *
  by_cases hN' : N' < 0
  · exact .inl hN'
  right
  have h0 := Int.mul_nonneg (by omega : 0 ≤ N') (Int.le_of_lt hb)
  have hN : 0 < N := by
    by_cases e : 0 < N
    · exact e
    · have h2 := Int.mul_nonneg (by omega : 0 ≤ -N) (Int.le_of_lt hb')
      grind
  have h1 := h.resolve_left (by omega)
  have h2 := sq_lt h0 key
  have h3 := Int.mul_le_mul_of_nonneg_right h1 (sq_nn b')
  have h4 : (N' * N') * (b * b) < (b' * b' * w.s) * (b * b) := by grind
  exact Int.lt_of_mul_lt_mul_right h4 (sq_nn b)
theorem Plc.lt_le {w : Plc} {a b : Int} (h : w.lt a b) : w.le a b := by
  unfold Plc.lt at h
  unfold Plc.le
  omega
theorem ordB_le {x y : Plc} : ordB x y ≤ 0 ↔ 0 ≤ x.s - y.s - (x.n - y.n) * (x.n - y.n) ∧ 4 * (x.n - y.n) * (x.n - y.n) * y.s ≤ (x.s - y.s - (x.n - y.n) * (x.n - y.n)) * (x.s - y.s - (x.n - y.n) * (x.n - y.n)) := by
  unfold ordB
  split
  · constructor
    · intro h; exact absurd h (by decide)
    · intro h; omega
  · rw [cmpI_le]; constructor
    · exact fun h => ⟨by omega, h⟩
    · exact fun h => h.2
theorem ordB_ge {x y : Plc} : 0 ≤ ordB x y ↔ x.s - y.s - (x.n - y.n) * (x.n - y.n) < 0 ∨ (x.s - y.s - (x.n - y.n) * (x.n - y.n)) * (x.s - y.s - (x.n - y.n) * (x.n - y.n)) ≤ 4 * (x.n - y.n) * (x.n - y.n) * y.s := by
  unfold ordB
  split
  · rename_i h
    exact ⟨fun _ => .inl h, fun _ => by decide⟩
  · rename_i h
    rw [cmpI_neg, Int.neg_nonneg, cmpI_le]
    exact ⟨.inr, fun k => k.resolve_left h⟩
/-- Both have roots; the first numerator is not less. -/
theorem rootA {N1 N2 D S1 S2 : Int} (e : N1 = N2 + D) (h2 : 0 ≤ S2) (hE : 0 ≤ S1 - S2 - D * D) (hq : 4 * D * D * S2 ≤ (S1 - S2 - D * D) * (S1 - S2 - D * D)) (h : N2 ≤ 0 ∨ N2 * N2 ≤ S2) : N1 ≤ 0 ∨ N1 * N1 ≤ S1 := by
  by_cases h1 : N1 ≤ 0
  · exact .inl h1
  right
  by_cases k : N2 ≤ 0
  · have := sq_le (by omega : 0 ≤ N1) (by omega : N1 ≤ D); omega
  have h := h.resolve_left k
  have : 2 * N2 * D ≤ S1 - S2 - D * D := by
    refine of_sq hE (Int.le_trans ?_ hq)
    have := Int.mul_le_mul_of_nonneg_left h (sq_nn (2 * D))
    grind
  have e2 : N1 * N1 = N2 * N2 + 2 * N2 * D + D * D := by subst e; grind
  omega
theorem rootB {N1 N2 D S1 S2 : Int} (hD : 0 < D) (e : N2 = N1 + D) (hq : S2 - S1 - D * D < 0 ∨ (S2 - S1 - D * D) * (S2 - S1 - D * D) ≤ 4 * D * D * S1) (h : N2 ≤ 0 ∨ N2 * N2 ≤ S2) : N1 ≤ 0 ∨ N1 * N1 ≤ S1 := by
  by_cases h1 : N1 ≤ 0
  · exact .inl h1
  right
  have h := h.resolve_left (by omega)
  have hp := Int.mul_pos (by omega : 0 < N1) hD
  have h5 : N1 * N1 + 2 * (N1 * D) ≤ (S2 - S1 - D * D) + S1 := by subst e; grind
  rcases hq with hq | hq
  · omega
  by_cases k : N1 * N1 ≤ S1
  · exact k
  exfalso
  have h6 : 2 * (N1 * D) < S2 - S1 - D * D := by omega
  have h7 := sq_lt (by omega) h6
  have h8 := Int.mul_lt_mul_of_pos_right (by omega : S1 < N1 * N1) (Int.mul_pos hD hD)
  grind
/-- What comes before it, is not greater. -/
theorem ord_trans {x y : Plc} (hxm : 0 < x.m) (hym : 0 < y.m) (hxs : 0 ≤ x.s) (hys : 0 ≤ y.s) (hm : x.s ≠ 0 → y.s ≠ 0 → x.m = y.m) {a b : Int} (hb : 0 < b) (h : ordP x y ≤ 0) (k : y.le a b) : x.le a b := by
  by_cases hx : x.s = 0 <;> by_cases hy : y.s = 0
  · unfold ordP at h
    simp only [hx, hy, and_self, if_true] at h
    rw [cmpI_le] at h
    rw [Plc.le_flat hy] at k
    rw [Plc.le_flat hx]
    have h1 := Int.mul_le_mul_of_nonneg_right h (Int.le_of_lt hb)
    have h2 := Int.mul_le_mul_of_nonneg_right k (Int.le_of_lt hxm)
    have h3 : x.n * b * y.m ≤ a * x.m * y.m := by grind
    exact Int.le_of_mul_le_mul_right h3 hym
  · unfold ordP at h
    simp only [hx, hy, and_false, if_false, if_true] at h
    rw [Plc.le_flat hx]
    have hW : 0 ≤ ordR y x := by omega
    unfold ordR at hW
    split at hW
    rotate_left
    · exact absurd hW (by decide)
    rename_i hW0
    rw [cmpI_neg, Int.neg_nonneg, cmpI_le] at hW
    by_cases e : x.n * b ≤ a * x.m
    · exact e
    exfalso
    unfold Plc.le at k
    have h1 := Int.mul_pos hym (by omega : 0 < x.n * b - a * x.m)
    have h2 : b * (y.n * x.m - x.n * y.m) < (y.n * b - a * y.m) * x.m := by grind
    have h3 := Int.mul_nonneg (Int.le_of_lt hb) hW0
    have h4 := sq_lt h3 h2
    rcases k with k | k
    · have := Int.mul_nonneg (by omega : 0 ≤ -(y.n * b - a * y.m)) (Int.le_of_lt hxm)
      have e2 : -(y.n * b - a * y.m) * x.m = - ((y.n * b - a * y.m) * x.m) := by grind
      omega
    · have h5 := Int.mul_le_mul_of_nonneg_right k (sq_nn x.m)
      have h6 := Int.mul_le_mul_of_nonneg_left hW (sq_nn b)
      grind
  · unfold ordP at h
    simp only [hx, hy, false_and, if_false, if_true] at h
    rw [ordR_le hxs] at h
    rw [Plc.le_flat hy] at k
    exact Plc.le_mono hxm hym hb h k
  · unfold ordP at h
    simp only [hx, hy, false_and, if_false] at h
    have hm := hm hx hy
    unfold Plc.le at k ⊢
    rw [hm]
    have hbb : 0 ≤ b * b := sq_nn b
    split at h
    · rename_i hn
      rw [Int.neg_nonpos_iff, ordB_ge] at h
      refine rootB (D := (y.n - x.n) * b) (Int.mul_pos (by omega) hb) (by grind) ?_ k
      rcases h with h | h
      · left
        have := Int.mul_pos (Int.mul_pos hb hb) (by omega : 0 < -(y.s - x.s - (y.n - x.n) * (y.n - x.n)))
        grind
      · right
        have := Int.mul_le_mul_of_nonneg_left h (Int.mul_nonneg hbb hbb)
        grind
    · rename_i hn
      rw [ordB_le] at h
      refine rootA (D := (x.n - y.n) * b) (by grind) (Int.mul_nonneg hbb hys) ?_ ?_ k
      · have := Int.mul_nonneg hbb h.1
        grind
      · have := Int.mul_le_mul_of_nonneg_left h.2 (Int.mul_nonneg hbb hbb)
        grind
end Go.Proofs.YtcojfohjdibjjaaGreatDoor
namespace Go.Proofs.YtcojfohjdibjjaaGreatDoor
open Go.RowKit

def types : List (Nat × TI) := [(1, ⟨1, 8, .prim, [.v .nilFunc], false⟩),
  (2, ⟨1, 8, .int .i64, [.il .i64 0], false⟩),
  (3, ⟨1, 8, .int .i64, [.il .i64 0], false⟩),
  (4, ⟨1, 1, .bool, [.bl false], false⟩),
  (5, ⟨1, 1, .int .u8, [.il .u8 0], false⟩),
  (6, ⟨1, 1, .int .u8, [.il .u8 0], false⟩),
  (7, ⟨4, 24, .struct [(0, 2), (1, 3), (2, 4), (3, 6)], [.il .i64 0, .il .i64 0, .bl false, .il .u8 0], true⟩),
  (8, ⟨4, 24, .struct [(0, 2), (1, 3), (2, 4), (3, 6)], [.il .i64 0, .il .i64 0, .bl false, .il .u8 0], true⟩),
  (12, ⟨1, 8, .int .u64, [.il .u64 0], false⟩),
  (15, ⟨1, 8, .ptr 300, [.v (.pointer none)], false⟩),
  (16, ⟨1, 8, .ptr 303, [.v (.pointer none)], false⟩),
  (17, ⟨1, 8, .ptr 311, [.v (.pointer none)], false⟩),
  (18, ⟨1, 8, .struct [(0, 17)], [.v (.pointer none)], false⟩),
  (19, ⟨1, 8, .struct [(0, 17)], [.v (.pointer none)], false⟩),
  (20, ⟨1, 16, .prim, [.v .nilIface], false⟩),
  (21, ⟨1, 4, .int .i32, [.il .i32 0], false⟩),
  (22, ⟨2, 16, .struct [(0, 3), (1, 3)], [.il .i64 0, .il .i64 0], true⟩),
  (23, ⟨2, 16, .struct [(0, 3), (1, 3)], [.il .i64 0, .il .i64 0], true⟩),
  (24, ⟨9, 64, .struct [(0, 3), (1, 23), (3, 23), (5, 3), (6, 3), (7, 4), (8, 4)], [.il .i64 0, .il .i64 0, .il .i64 0, .il .i64 0, .il .i64 0, .il .i64 0, .il .i64 0, .bl false, .bl false], true⟩),
  (25, ⟨9, 64, .struct [(0, 3), (1, 23), (3, 23), (5, 3), (6, 3), (7, 4), (8, 4)], [.il .i64 0, .il .i64 0, .il .i64 0, .il .i64 0, .il .i64 0, .il .i64 0, .il .i64 0, .bl false, .bl false], true⟩),
  (26, ⟨1, 8, .prim, [.v .nilFunc], false⟩),
  (27, ⟨1, 8, .prim, [.v .nilFunc], false⟩),
  (28, ⟨1, 8, .int .i64, [.il .i64 0], false⟩),
  (30, ⟨1, 8, .prim, [.v .nilFunc], false⟩),
  (31, ⟨1, 8, .prim, [.v .nilFunc], false⟩),
  (32, ⟨1, 8, .prim, [.v .nilFunc], false⟩),
  (33, ⟨1, 8, .prim, [.v .nilFunc], false⟩),
  (34, ⟨1, 8, .prim, [.v .nilFunc], false⟩),
  (35, ⟨1, 8, .prim, [.v .nilFunc], false⟩),
  (36, ⟨1, 24, .sl 3, [.v (.slice none 0 0)], false⟩),
  (38, ⟨1, 8, .prim, [.v .nilFunc], false⟩),
  (39, ⟨1, 24, .sl 25, [.v (.slice none 0 0)], false⟩),
  (41, ⟨1, 8, .prim, [.v .nilFunc], false⟩),
  (42, ⟨4, 32, .struct [(0, 23), (2, 23)], [.il .i64 0, .il .i64 0, .il .i64 0, .il .i64 0], true⟩),
  (43, ⟨4, 32, .struct [(0, 23), (2, 23)], [.il .i64 0, .il .i64 0, .il .i64 0, .il .i64 0], true⟩),
  (44, ⟨1, 8, .prim, [.v .nilFunc], false⟩),
  (45, ⟨1, 24, .sl 43, [.v (.slice none 0 0)], false⟩),
  (46, ⟨1, 8, .prim, [.v .nilFunc], false⟩),
  (47, ⟨1, 8, .prim, [.v .nilFunc], false⟩),
  (48, ⟨3, 24, .struct [(0, 3), (1, 3), (2, 3)], [.il .i64 0, .il .i64 0, .il .i64 0], true⟩),
  (49, ⟨3, 24, .struct [(0, 3), (1, 3), (2, 3)], [.il .i64 0, .il .i64 0, .il .i64 0], true⟩),
  (51, ⟨1, 8, .prim, [.v .nilFunc], false⟩),
  (52, ⟨1, 8, .prim, [.v .nilFunc], false⟩),
  (53, ⟨1, 8, .prim, [.v .nilFunc], false⟩),
  (54, ⟨1, 8, .prim, [.v .nilFunc], false⟩),
  (55, ⟨1, 8, .prim, [.v .nilFunc], false⟩),
  (56, ⟨1, 8, .ptr 89, [.v (.pointer none)], false⟩),
  (57, ⟨3, 24, .struct [(0, 56), (1, 56), (2, 56)], [.v (.pointer none), .v (.pointer none), .v (.pointer none)], false⟩),
  (58, ⟨3, 24, .struct [(0, 56), (1, 56), (2, 56)], [.v (.pointer none), .v (.pointer none), .v (.pointer none)], false⟩),
  (60, ⟨1, 8, .prim, [.v .nilFunc], false⟩),
  (61, ⟨1, 8, .prim, [.v .nilFunc], false⟩),
  (62, ⟨1, 8, .prim, [.v .nilFunc], false⟩),
  (63, ⟨1, 8, .prim, [.v .nilFunc], false⟩),
  (64, ⟨1, 8, .prim, [.v .nilFunc], false⟩),
  (65, ⟨1, 8, .prim, [.v .nilFunc], false⟩),
  (66, ⟨1, 8, .mp 3 49, [.v (.map none)], false⟩),
  (67, ⟨1, 8, .prim, [.v .nilFunc], false⟩),
  (68, ⟨1, 8, .prim, [.v .nilFunc], false⟩),
  (69, ⟨1, 8, .prim, [.v .nilFunc], false⟩),
  (70, ⟨1, 8, .prim, [.v .nilFunc], false⟩),
  (71, ⟨1, 8, .prim, [.v .nilFunc], false⟩),
  (72, ⟨1, 8, .prim, [.v .nilFunc], false⟩),
  (73, ⟨1, 8, .prim, [.v .nilFunc], false⟩),
  (74, ⟨1, 8, .prim, [.v .nilFunc], false⟩),
  (76, ⟨1, 8, .prim, [.v .nilFunc], false⟩),
  (77, ⟨1, 8, .int .u64, [.il .u64 0], false⟩),
  (78, ⟨1, 8, .prim, [.v .nilFunc], false⟩),
  (79, ⟨1, 8, .prim, [.v .nilFunc], false⟩),
  (80, ⟨1, 8, .int .u64, [.il .u64 0], false⟩),
  (81, ⟨2, 16, .struct [(0, 80), (1, 80)], [.il .u64 0, .il .u64 0], true⟩),
  (82, ⟨2, 16, .struct [(0, 80), (1, 80)], [.il .u64 0, .il .u64 0], true⟩),
  (83, ⟨1, 8, .prim, [.v .nilFunc], false⟩),
  (84, ⟨1, 8, .prim, [.v .nilFunc], false⟩),
  (85, ⟨1, 8, .prim, [.v .nilFunc], false⟩),
  (86, ⟨1, 24, .sl 115, [.v (.slice none 0 0)], false⟩),
  (87, ⟨1, 24, .sl 115, [.v (.slice none 0 0)], false⟩),
  (88, ⟨2, 32, .struct [(0, 4), (1, 87)], [.bl false, .v (.slice none 0 0)], false⟩),
  (89, ⟨2, 32, .struct [(0, 4), (1, 87)], [.bl false, .v (.slice none 0 0)], false⟩),
  (90, ⟨1, 8, .prim, [.v .nilFunc], false⟩),
  (91, ⟨1, 8, .prim, [.v .nilFunc], false⟩),
  (92, ⟨1, 8, .prim, [.v .nilFunc], false⟩),
  (93, ⟨1, 8, .prim, [.v .nilFunc], false⟩),
  (94, ⟨1, 8, .prim, [.v .nilFunc], false⟩),
  (95, ⟨1, 24, .sl 23, [.v (.slice none 0 0)], false⟩),
  (96, ⟨1, 8, .prim, [.v .nilFunc], false⟩),
  (97, ⟨1, 8, .prim, [.v .nilFunc], false⟩),
  (98, ⟨1, 8, .prim, [.v .nilFunc], false⟩),
  (99, ⟨4, 32, .arr 4 3, [.il .i64 0, .il .i64 0, .il .i64 0, .il .i64 0], true⟩),
  (100, ⟨8, 64, .arr 2 99, [.il .i64 0, .il .i64 0, .il .i64 0, .il .i64 0, .il .i64 0, .il .i64 0, .il .i64 0, .il .i64 0], true⟩),
  (101, ⟨1, 8, .prim, [.v .nilFunc], false⟩),
  (102, ⟨1, 8, .prim, [.v .nilFunc], false⟩),
  (103, ⟨1, 8, .prim, [.v .nilFunc], false⟩),
  (104, ⟨1, 8, .prim, [.v .nilFunc], false⟩),
  (105, ⟨1, 8, .prim, [.v .nilFunc], false⟩),
  (106, ⟨1, 8, .prim, [.v .nilFunc], false⟩),
  (107, ⟨1, 8, .prim, [.v .nilFunc], false⟩),
  (108, ⟨1, 8, .prim, [.v .nilFunc], false⟩),
  (109, ⟨1, 8, .prim, [.v .nilFunc], false⟩),
  (110, ⟨1, 8, .prim, [.v .nilFunc], false⟩),
  (111, ⟨1, 8, .prim, [.v .nilFunc], false⟩),
  (112, ⟨1, 8, .prim, [.v .nilFunc], false⟩),
  (113, ⟨1, 8, .prim, [.v .nilFunc], false⟩),
  (114, ⟨1, 8, .prim, [.v .nilFunc], false⟩),
  (115, ⟨1, 8, .int .u64, [.il .u64 0], false⟩),
  (116, ⟨1, 8, .prim, [.v .nilFunc], false⟩),
  (117, ⟨1, 8, .prim, [.v .nilFunc], false⟩),
  (118, ⟨1, 8, .prim, [.v .nilFunc], false⟩),
  (119, ⟨1, 8, .prim, [.v .nilFunc], false⟩),
  (120, ⟨1, 8, .prim, [.v .nilFunc], false⟩),
  (122, ⟨1, 8, .prim, [.v .nilFunc], false⟩),
  (123, ⟨1, 8, .prim, [.v .nilFunc], false⟩),
  (124, ⟨1, 8, .ptr 115, [.v (.pointer none)], false⟩),
  (125, ⟨1, 4, .int .u32, [.il .u32 0], false⟩),
  (127, ⟨1, 8, .prim, [.v .nilFunc], false⟩),
  (129, ⟨1, 8, .prim, [.v .nilFunc], false⟩),
  (130, ⟨1, 8, .ptr 148, [.v (.pointer none)], false⟩),
  (131, ⟨1, 8, .prim, [.v .nilFunc], false⟩),
  (132, ⟨1, 8, .prim, [.v .nilFunc], false⟩),
  (134, ⟨1, 8, .prim, [.v .nilFunc], false⟩),
  (135, ⟨1, 8, .prim, [.v .nilFunc], false⟩),
  (136, ⟨1, 8, .prim, [.v .nilFunc], false⟩),
  (137, ⟨1, 8, .prim, [.v .nilFunc], false⟩),
  (138, ⟨1, 8, .prim, [.v .nilFunc], false⟩),
  (139, ⟨1, 8, .prim, [.v .nilFunc], false⟩),
  (140, ⟨1, 8, .prim, [.v .nilFunc], false⟩),
  (141, ⟨1, 8, .prim, [.v .nilFunc], false⟩),
  (142, ⟨1, 8, .prim, [.v .nilFunc], false⟩),
  (143, ⟨1, 8, .prim, [.v .nilFunc], false⟩),
  (144, ⟨1, 8, .prim, [.v .nilFunc], false⟩),
  (145, ⟨1, 8, .prim, [.v .nilFunc], false⟩),
  (146, ⟨1, 8, .ptr 162, [.v (.pointer none)], false⟩),
  (147, ⟨1, 8, .struct [(0, 146)], [.v (.pointer none)], false⟩),
  (148, ⟨1, 8, .struct [(0, 146)], [.v (.pointer none)], false⟩),
  (149, ⟨1, 8, .prim, [.v .nilFunc], false⟩),
  (150, ⟨1, 8, .prim, [.v .nilFunc], false⟩),
  (151, ⟨1, 8, .prim, [.v .nilFunc], false⟩)]
set_option maxRecDepth 100000 in
theorem types_ok : types.all (chkT Tryz.prog) = true := by kernel_rfl
def ground : List (Nat × (List SV × TypeId)) := [(0, ([.il .i64 12], 3)), (1, ([.il .i64 80], 3)), (2, ([.il .i64 40], 3))]
def cx : Cx Tryz.prog := ⟨types, ground, 3, types_ok⟩
end Go.Proofs.YtcojfohjdibjjaaGreatDoor
