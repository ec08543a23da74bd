/- Numbers of many words: what a row of words is worth. The reference's comparison of places is the program's. Words: sums, differences and products of two, with what is carried. Natural numbers: which is less. -/
import Derived.Test.YtcojfohjdibjjaaGreatDoorG18
import Derived.Test.YtcojfohjdibjjaaGreatDoorP0
import Derived.Test.YtcojfohjdibjjaaGreatDoorQ0
import Derived.Laws.Twins
import Derived.Shelf.Spec.BitsCarry
namespace Go.Proofs.YtcojfohjdibjjaaGreatDoor

/-- What n words are worth. -/
def valN (g : Nat → Int) : Nat → Int
  | 0 => 0
  | n + 1 => valN g n + g n * 18446744073709551616 ^ n
/-- Each of n is a word. -/
def Words (g : Nat → Int) (n : Nat) : Prop := ∀ i, i < n → 0 ≤ g i ∧ g i < 18446744073709551616
theorem pw_pos (n : Nat) : (0 : Int) < 18446744073709551616 ^ n := Int.pow_pos (by decide)
theorem pw_succ (n : Nat) : (18446744073709551616 : Int) ^ (n + 1) = 18446744073709551616 * 18446744073709551616 ^ n := by rw [Int.pow_succ, Int.mul_comm]
theorem Words.le {g : Nat → Int} {m n : Nat} (h : Words g n) (k : m ≤ n) : Words g m := fun i hi => h i (by omega)
theorem valN_nn {g : Nat → Int} : ∀ {n : Nat}, Words g n → 0 ≤ valN g n
  | 0, _ => Int.le_refl 0
  | n + 1, h => by
    have h1 := valN_nn (h.le (Nat.le_succ n))
    have h2 := Int.mul_nonneg (h n (by omega)).1 (Int.le_of_lt (pw_pos n))
    simp only [valN]; omega
theorem valN_lt {g : Nat → Int} : ∀ {n : Nat}, Words g n → valN g n < 18446744073709551616 ^ n
  | 0, _ => by simp only [valN, Int.pow_zero]; decide
  | n + 1, h => by
    have h1 := valN_lt (h.le (Nat.le_succ n))
    have h2 := Int.mul_le_mul_of_nonneg_right (by have := (h n (by omega)).2; omega : g n ≤ 18446744073709551615) (Int.le_of_lt (pw_pos n))
    rw [pw_succ]; simp only [valN]
    have h3 : (18446744073709551615 : Int) * 18446744073709551616 ^ n = 18446744073709551616 * 18446744073709551616 ^ n - 18446744073709551616 ^ n := by grind
    omega
theorem valN_congr {f g : Nat → Int} : ∀ {n : Nat}, (∀ i, i < n → f i = g i) → valN f n = valN g n
  | 0, _ => rfl
  | n + 1, h => by simp only [valN]; rw [valN_congr (fun i hi => h i (by omega)), h n (by omega)]
/-- The words of a number. -/
def wordI (x : Int) (i : Nat) : Int := x / 18446744073709551616 ^ i % 18446744073709551616
theorem wordI_rng (x : Int) (i : Nat) : 0 ≤ wordI x i ∧ wordI x i < 18446744073709551616 := ⟨Int.emod_nonneg _ (by decide), Int.emod_lt_of_pos _ (by decide)⟩
theorem wordI_words (x : Int) (n : Nat) : Words (wordI x) n := fun i _ => wordI_rng x i
theorem valN_word (x : Int) : ∀ n, valN (wordI x) n = x % 18446744073709551616 ^ n
  | 0 => by simp [valN, Int.emod_one]
  | n + 1 => by
    have hp := pw_pos n
    simp only [valN, valN_word x n, wordI]
    have e1 := Int.emod_add_mul_ediv x (18446744073709551616 ^ n)
    have e2 := Int.emod_add_mul_ediv (x / 18446744073709551616 ^ n) 18446744073709551616
    have r1 := Int.emod_nonneg x (by omega : (18446744073709551616 : Int) ^ n ≠ 0)
    have r2 := Int.emod_lt_of_pos x hp
    have r3 := Int.emod_nonneg (x / 18446744073709551616 ^ n) (by decide : (18446744073709551616 : Int) ≠ 0)
    have r4 := Int.emod_lt_of_pos (x / 18446744073709551616 ^ n) (by decide : (0 : Int) < 18446744073709551616)
    generalize x % 18446744073709551616 ^ n = r at *
    generalize x / 18446744073709551616 ^ n / 18446744073709551616 = q2 at *
    generalize x / 18446744073709551616 ^ n % 18446744073709551616 = s at *
    generalize x / 18446744073709551616 ^ n = q at *
    rw [pw_succ]
    generalize (18446744073709551616 : Int) ^ n = P at *
    have h1 := Int.mul_nonneg r3 (Int.le_of_lt hp)
    have h2 := Int.mul_le_mul_of_nonneg_right (by omega : s ≤ 18446744073709551615) (Int.le_of_lt hp)
    have h3 : (r + s * P) + (18446744073709551616 * P) * q2 = x := by subst e2; grind
    rw [← h3, Int.add_mul_emod_self_left]
    exact (Int.emod_eq_of_lt (by omega) (by grind)).symm
/-- How many words a number has. -/
def lenI (x : Int) : Nat := if x ≤ 0 then 0 else x.toNat.log2 / 64 + 1
theorem pw64 (k : Nat) : (18446744073709551616 : Nat) ^ k = 2 ^ (64 * k) := by
  rw [Nat.pow_mul]
theorem lenI_zero {x : Int} (h : x ≤ 0) : lenI x = 0 := by unfold lenI; rw [if_pos h]
theorem lenI_spec {x : Int} (h : 0 < x) : ∃ k, lenI x = k + 1 ∧ (18446744073709551616 : Int) ^ k ≤ x ∧ x < 18446744073709551616 ^ (k + 1) := by
  refine ⟨x.toNat.log2 / 64, by unfold lenI; rw [if_neg (by omega)], ?_, ?_⟩
  · have h0 : x.toNat ≠ 0 := by omega
    have h1 := Nat.log2_self_le h0
    have h2 : (18446744073709551616 : Nat) ^ (x.toNat.log2 / 64) ≤ 2 ^ x.toNat.log2 := by
      rw [pw64]; exact Nat.pow_le_pow_right (by decide) (by omega)
    have h3 : (18446744073709551616 : Nat) ^ (x.toNat.log2 / 64) ≤ x.toNat := Nat.le_trans h2 h1
    have h4 : ((18446744073709551616 ^ (x.toNat.log2 / 64) : Nat) : Int) ≤ (x.toNat : Int) := Int.ofNat_le.2 h3
    rw [Int.natCast_pow] at h4
    have h5 : (x.toNat : Int) = x := Int.toNat_of_nonneg (by omega)
    rw [h5] at h4
    exact h4
  · have h1 := Nat.lt_log2_self (n := x.toNat)
    have h2 : 2 ^ (x.toNat.log2 + 1) ≤ (18446744073709551616 : Nat) ^ (x.toNat.log2 / 64 + 1) := by
      rw [pw64]; exact Nat.pow_le_pow_right (by decide) (by omega)
    have h3 : x.toNat < (18446744073709551616 : Nat) ^ (x.toNat.log2 / 64 + 1) := Nat.lt_of_lt_of_le h1 h2
    have h4 : (x.toNat : Int) < ((18446744073709551616 ^ (x.toNat.log2 / 64 + 1) : Nat) : Int) := Int.ofNat_lt.2 h3
    rw [Int.natCast_pow] at h4
    have h5 : (x.toNat : Int) = x := Int.toNat_of_nonneg (by omega)
    rw [h5] at h4
    exact h4
theorem pw_mono {m n : Nat} (h : m ≤ n) : (18446744073709551616 : Int) ^ m ≤ 18446744073709551616 ^ n := by
  have := Nat.pow_le_pow_right (n := 18446744073709551616) (by decide) h
  have h2 := Int.ofNat_le.2 this
  rw [Int.natCast_pow, Int.natCast_pow] at h2
  exact h2
theorem lenI_le {x : Int} {n : Nat} (h : x < 18446744073709551616 ^ n) : lenI x ≤ n := by
  by_cases h0 : x ≤ 0
  · rw [lenI_zero h0]; omega
  · obtain ⟨k, e, k1, k2⟩ := lenI_spec (by omega : 0 < x)
    rw [e]
    by_cases hk : k + 1 ≤ n
    · exact hk
    · have := pw_mono (by omega : n ≤ k); omega
theorem lenI_pos {x : Int} : 0 < lenI x ↔ 0 < x := by
  constructor
  · intro h
    by_cases h0 : x ≤ 0
    · rw [lenI_zero h0] at h; omega
    · omega
  · intro h
    obtain ⟨k, e, -⟩ := lenI_spec h
    omega
theorem valN_len {x : Int} (h : 0 ≤ x) : valN (wordI x) (lenI x) = x := by
  rw [valN_word]
  by_cases h0 : x ≤ 0
  · have : x = 0 := by omega
    subst this; simp
  · obtain ⟨k, e, k1, k2⟩ := lenI_spec (by omega : 0 < x)
    rw [e]
    exact Int.emod_eq_of_lt h k2
theorem top_ne {x : Int} (h : 0 < lenI x) : wordI x (lenI x - 1) ≠ 0 := by
  obtain ⟨k, e, k1, k2⟩ := lenI_spec (lenI_pos.1 h)
  rw [e]
  show wordI x k ≠ 0
  unfold wordI
  rw [pw_succ] at k2
  have hp := pw_pos k
  have h1 : 1 ≤ x / 18446744073709551616 ^ k := (Int.le_ediv_iff_mul_le hp).2 (by omega)
  have h2 : x / 18446744073709551616 ^ k < 18446744073709551616 := Int.ediv_lt_of_lt_mul hp k2
  rw [Int.emod_eq_of_lt (by omega) h2]
  omega
/-- The words of what words are worth. -/
theorem word_val {g : Nat → Int} : ∀ {n : Nat}, Words g n → ∀ i, i < n → wordI (valN g n) i = g i
  | 0, _, i, hi => by omega
  | n + 1, h, i, hi => by
    have hw := h.le (Nat.le_succ n)
    have hn := valN_nn hw
    have hl := valN_lt hw
    have hp := pw_pos n
    by_cases hin : i < n
    · rw [← word_val hw i hin]
      simp only [valN, wordI]
      obtain ⟨d, rfl⟩ : ∃ d, n = i + 1 + d := ⟨n - i - 1, by omega⟩
      have e : g (i + 1 + d) * 18446744073709551616 ^ (i + 1 + d) = (g (i + 1 + d) * 18446744073709551616 ^ d * 18446744073709551616) * 18446744073709551616 ^ i := by
        rw [Int.pow_add, Int.pow_succ]; grind
      rw [e, Int.add_mul_ediv_right _ _ (by have := pw_pos i; omega), Int.add_mul_emod_self_right]
    · obtain rfl : i = n := by omega
      simp only [valN, wordI]
      rw [Int.add_mul_ediv_right _ _ (by omega), Int.ediv_eq_zero_of_lt hn hl, Int.zero_add]
      exact Int.emod_eq_of_lt (h i (by omega)).1 (h i (by omega)).2
/-- A row of words without a zero at its end is that of its number. -/
structure Nrm (g : Nat → Int) (n : Nat) : Prop where
  w : Words g n
  t : 0 < n → g (n - 1) ≠ 0
theorem nrm_word (x : Int) : Nrm (wordI x) (lenI x) := ⟨wordI_words x _, top_ne⟩
theorem Nrm.pos {g : Nat → Int} {n : Nat} (h : Nrm g n) (hn : 0 < n) : (18446744073709551616 : Int) ^ (n - 1) ≤ valN g n := by
  obtain ⟨k, rfl⟩ : ∃ k, n = k + 1 := ⟨n - 1, by omega⟩
  have h1 := h.t hn
  have h2 := (h.w k (by omega)).1
  have h3 := valN_nn (h.w.le (Nat.le_succ k))
  simp only [Nat.add_sub_cancel] at h1 ⊢
  have h4 := Int.mul_le_mul_of_nonneg_right (by omega : 1 ≤ g k) (Int.le_of_lt (pw_pos k))
  simp only [valN]; omega
theorem Nrm.len {g : Nat → Int} {n : Nat} (h : Nrm g n) : n = lenI (valN g n) := by
  by_cases hn : n = 0
  · subst hn; rfl
  · have h1 := h.pos (by omega)
    have h2 := valN_lt h.w
    have h3 := pw_pos (n - 1)
    obtain ⟨k, e, k1, k2⟩ := lenI_spec (by omega : 0 < valN g n)
    rw [e]
    have a1 : n ≤ k + 1 := by
      by_cases q : n ≤ k + 1
      · exact q
      · have := pw_mono (by omega : k + 1 ≤ n - 1); omega
    have a2 : k + 1 ≤ n := by
      by_cases q : k + 1 ≤ n
      · exact q
      · have := pw_mono (by omega : n ≤ k); omega
    omega
theorem Nrm.word {g : Nat → Int} {n : Nat} (h : Nrm g n) {v : Int} (e : valN g n = v) : n = lenI v ∧ ∀ i, i < n → g i = wordI v i := by
  subst e
  exact ⟨h.len, fun i hi => (word_val h.w i hi).symm⟩
/-- More words, all of them zero, are worth nothing. -/
theorem valN_zeros {g : Nat → Int} {m : Nat} : ∀ {n : Nat}, m ≤ n → (∀ i, m ≤ i → i < n → g i = 0) → valN g n = valN g m
  | 0, h, _ => by obtain rfl : m = 0 := by omega
                  rfl
  | n + 1, h, hz => by
    by_cases e : m = n + 1
    · subst e; rfl
    · simp only [valN]
      rw [hz n (by omega) (by omega), valN_zeros (by omega) (fun i h1 h2 => hz i h1 (by omega))]
      omega
/-- Rows side by side. -/
theorem valN_add (g : Nat → Int) (m : Nat) : ∀ n, valN g (m + n) = valN g m + valN (fun i => g (m + i)) n * 18446744073709551616 ^ m
  | 0 => by simp [valN]
  | n + 1 => by
    show valN g (m + n) + g (m + n) * 18446744073709551616 ^ (m + n) = _
    rw [valN_add g m n, Int.pow_add]
    simp only [valN]
    grind
/-- Which of two rows is worth less: the highest word that differs tells it. -/
theorem valN_cmp {f g : Nat → Int} {n i : Nat} (hf : Words f n) (hg : Words g n) (hi : i < n) (he : ∀ j, i < j → j < n → f j = g j) (h : f i < g i) : valN f n < valN g n := by
  obtain ⟨d, rfl⟩ : ∃ d, n = i + 1 + d := ⟨n - i - 1, by omega⟩
  rw [valN_add f (i + 1) d, valN_add g (i + 1) d]
  have e1 : valN (fun j => f (i + 1 + j)) d = valN (fun j => g (i + 1 + j)) d := valN_congr fun j hj => he _ (by omega) (by omega)
  rw [e1]
  have h1 := valN_lt (hf.le (by omega : i ≤ i + 1 + d))
  have h2 := valN_nn (hg.le (by omega : i ≤ i + 1 + d))
  have h3 := Int.mul_le_mul_of_nonneg_right (by omega : f i + 1 ≤ g i) (Int.le_of_lt (pw_pos i))
  have e2 : valN f (i + 1) = valN f i + f i * 18446744073709551616 ^ i := rfl
  have e3 : valN g (i + 1) = valN g i + g i * 18446744073709551616 ^ i := rfl
  rw [Int.add_mul] at h3
  rw [e2, e3]
  omega
theorem nrm_lt {f g : Nat → Int} {m n : Nat} (hf : Nrm f m) (hg : Nrm g n) (h : m < n) : valN f m < valN g n := by
  have h1 := valN_lt hf.w
  have h2 := hg.pos (by omega)
  have h3 := pw_mono (by omega : m ≤ n - 1)
  omega
end Go.Proofs.YtcojfohjdibjjaaGreatDoor
namespace Go.Proofs.YtcojfohjdibjjaaGreatDoor

/-- The sign of d - sqrt p + sqrt q, where d is not negative; for any d; of two places. -/
def sgnP (d p q : Int) : Int := if p - (d * d + q) < 0 then 1 else cmpI (4 * (d * d * q)) ((p - (d * d + q)) * (p - (d * d + q)))
def sgnE (d p q : Int) : Int := if d < 0 then - sgnP (-d) q p else sgnP d p q
def refC (a b : Plc) : Int := sgnE (a.n * b.m - b.n * a.m) (a.s * (b.m * b.m)) (b.s * (a.m * a.m))
theorem sq_pos {x : Int} (h : x ≠ 0) : 0 < x * x := by
  rcases Int.lt_or_gt_of_ne h with k | k
  · have := Int.mul_pos (by omega : 0 < -x) (by omega : 0 < -x); rw [Int.neg_mul_neg] at this; exact this
  · exact Int.mul_pos k k
theorem cmpI_self (x : Int) : cmpI x x = 0 := by unfold cmpI; grind
theorem cmpI_neg1 {x y : Int} (h : x < y) : cmpI x y = -1 := by unfold cmpI; rw [if_pos h]
theorem cmpI_one {x y : Int} (h : y < x) : cmpI x y = 1 := by unfold cmpI; rw [if_neg (by omega), if_pos h]
theorem cmpI_scale {k x y : Int} (hk : 0 < k) : cmpI (k * x) (k * y) = cmpI x y := by
  unfold cmpI
  by_cases h1 : x < y
  · rw [if_pos h1, if_pos (Int.mul_lt_mul_of_pos_left h1 hk)]
  · by_cases h2 : y < x
    · rw [if_neg h1, if_pos h2, if_neg (by have := Int.mul_lt_mul_of_pos_left h2 hk; omega), if_pos (Int.mul_lt_mul_of_pos_left h2 hk)]
    · have : x = y := by omega
      subst this
      simp
theorem sgnP_zero (p q : Int) : sgnP 0 p q = cmpI q p := by
  unfold sgnP
  simp only [Int.mul_zero, Int.zero_mul, Int.zero_add]
  by_cases h : p - q < 0
  · rw [if_pos h, cmpI_one (by omega)]
  · rw [if_neg h]
    by_cases k : p = q
    · subst k; simp [cmpI_self]
    · rw [cmpI_neg1 (by omega : q < p), cmpI_neg1 (sq_pos (by omega))]
theorem sgnE_neg (d p q : Int) : sgnE (-d) q p = - sgnE d p q := by
  unfold sgnE
  by_cases h1 : d < 0
  · rw [if_neg (by omega), if_pos h1]; omega
  · by_cases h2 : 0 < d
    · rw [if_pos (by omega), if_neg h1, Int.neg_neg]
    · have : d = 0 := by omega
      subst this
      simp only [Int.neg_zero, Int.lt_irrefl, if_false]
      rw [sgnP_zero, sgnP_zero, cmpI_neg]
theorem refC_neg (a b : Plc) : refC b a = - refC a b := by
  unfold refC
  rw [← sgnE_neg]
  congr 1
  omega
theorem sgnP_flat {d q : Int} (h : d ≠ 0) (hq : 0 ≤ q) : sgnP d 0 q = 1 := by
  unfold sgnP
  have := sq_pos h
  rw [if_pos (by omega)]
theorem sgnP_root {d p : Int} : sgnP d p 0 = cmpI (d * d) p := by
  unfold sgnP
  simp only [Int.mul_zero, Int.add_zero]
  by_cases h : p - d * d < 0
  · rw [if_pos h, cmpI_one (by omega)]
  · rw [if_neg h]
    by_cases k : p = d * d
    · subst k; simp [cmpI_self]
    · rw [cmpI_neg1 (by omega : d * d < p), cmpI_neg1 (sq_pos (by omega))]
/-- .. where the second has no root. -/
theorem refC_R {a b : Plc} (ha : 0 ≤ a.s) (h : b.s = 0) (h1 : a.s ≠ 0) (hb : 0 < b.m) : refC a b = ordR a b := by
  unfold refC ordR
  rw [h, Int.zero_mul]
  generalize a.n * b.m - b.n * a.m = d
  have hp : 0 ≤ a.s * (b.m * b.m) := Int.mul_nonneg ha (sq_nn _)
  have e : b.m * b.m * a.s = a.s * (b.m * b.m) := Int.mul_comm _ _
  rw [e]
  generalize a.s * (b.m * b.m) = p at *
  unfold sgnE
  by_cases hd : d < 0
  · rw [if_pos hd, if_neg (by omega), sgnP_flat (by omega) hp]
  · rw [if_neg hd, if_pos (by omega), sgnP_root]
/-- .. where both have roots, the first numerator not less. -/
theorem refC_B {a b : Plc} (hm : 0 < a.m) (h : a.m = b.m) (hn : ¬ a.n < b.n) : refC a b = ordB a b := by
  unfold refC ordB
  rw [← h]
  obtain ⟨n1, s1, m⟩ := a
  obtain ⟨n2, s2, m2⟩ := b
  simp only at *
  have hd : n1 * m - n2 * m = m * (n1 - n2) := by grind
  have hd0 : 0 ≤ m * (n1 - n2) := Int.mul_nonneg (by omega) (by omega)
  rw [hd]
  unfold sgnE
  rw [if_neg (by omega)]
  unfold sgnP
  have e : s1 * (m * m) - (m * (n1 - n2) * (m * (n1 - n2)) + s2 * (m * m)) = (m * m) * (s1 - s2 - (n1 - n2) * (n1 - n2)) := by grind
  rw [e]
  have hmm : 0 < m * m := Int.mul_pos hm hm
  have e2 : 4 * (m * (n1 - n2) * (m * (n1 - n2)) * (s2 * (m * m))) = (m * m * (m * m)) * (4 * (n1 - n2) * (n1 - n2) * s2) := by grind
  have e3 : (m * m) * (s1 - s2 - (n1 - n2) * (n1 - n2)) * ((m * m) * (s1 - s2 - (n1 - n2) * (n1 - n2))) = (m * m * (m * m)) * ((s1 - s2 - (n1 - n2) * (n1 - n2)) * (s1 - s2 - (n1 - n2) * (n1 - n2))) := by grind
  rw [e2, e3, cmpI_scale (Int.mul_pos hmm hmm)]
  by_cases hx : s1 - s2 - (n1 - n2) * (n1 - n2) < 0
  · rw [if_pos hx, if_pos]
    have := Int.mul_pos hmm (by omega : 0 < -(s1 - s2 - (n1 - n2) * (n1 - n2)))
    rw [Int.mul_neg] at this; omega
  · rw [if_neg hx, if_neg]
    have := Int.mul_nonneg (Int.le_of_lt hmm) (by omega : 0 ≤ s1 - s2 - (n1 - n2) * (n1 - n2))
    omega
theorem refC_eq {a b : Plc} (ha : 0 ≤ a.s) (hb : 0 ≤ b.s) (ham : 0 < a.m) (hbm : 0 < b.m) (hm : a.s ≠ 0 → b.s ≠ 0 → a.m = b.m) : refC a b = ordP a b := by
  unfold ordP
  by_cases h1 : a.s = 0 <;> by_cases h2 : b.s = 0
  · rw [if_pos ⟨h1, h2⟩]
    unfold refC
    rw [h1, h2]
    simp only [Int.zero_mul]
    unfold sgnE
    by_cases hd : a.n * b.m - b.n * a.m < 0
    · rw [if_pos hd, sgnP_flat (by omega) (by omega), cmpI_neg1 (by omega)]
    · rw [if_neg hd]
      by_cases hz : a.n * b.m - b.n * a.m = 0
      · rw [hz, sgnP_zero, cmpI_self, show a.n * b.m = b.n * a.m by omega, cmpI_self]
      · rw [sgnP_flat hz (by omega), cmpI_one (by omega)]
  · rw [if_neg (fun h => h2 h.2), if_neg h2, if_pos h1, ← refC_R hb h1 h2 ham, ← refC_neg, refC_neg]
  · rw [if_neg (fun h => h1 h.1), if_pos h2, refC_R ha h2 h1 hbm]
  · rw [if_neg (fun h => h1 h.1), if_neg h2, if_neg h1]
    have hm := hm h1 h2
    by_cases hn : a.n < b.n
    · rw [if_pos hn, ← refC_B hbm hm.symm (by omega), ← refC_neg, refC_neg]
    · rw [if_neg hn, refC_B ham hm hn]
end Go.Proofs.YtcojfohjdibjjaaGreatDoor
namespace Go.Proofs.YtcojfohjdibjjaaGreatDoor
open Go.RowKit

def Wrd (x : Int) : Prop := 0 ≤ x ∧ x < 18446744073709551616
def u64 (x : Int) : SV := .v (.int .u64 x)
/-- What is borrowed. -/
def brw (x y : Int) : Int := if x < y then 1 else 0
theorem brw_rng (x y : Int) : 0 ≤ brw x y ∧ brw x y ≤ 1 := by unfold brw; split <;> omega
def addS (a : Int × Int × Int) : SV := .tup [u64 ((a.1 + a.2.1 + a.2.2) % 18446744073709551616), u64 ((a.1 + a.2.1 + a.2.2) / 18446744073709551616)]
def subS (a : Int × Int × Int) : SV := .tup [u64 ((a.1 - a.2.1 - a.2.2) % 18446744073709551616), u64 (brw a.1 (a.2.1 + a.2.2))]
theorem add64_calls (x y c : Int) (hx : Wrd x) (hy : Wrd y) (hc : 0 ≤ c ∧ c ≤ 1) (w : World) :
    (callFunc 103 #[.int .u64 x, .int .u64 y, .int .u64 c]).run Tryz.prog w =
      .ok (.value (.tuple #[.int .u64 ((x + y + c) % 18446744073709551616), .int .u64 ((x + y + c) / 18446744073709551616)])) w := by
  rw [run_callFunc_extern Tryz.func103 (by kernel_rfl) (by kernel_rfl) (by kernel_rfl) (e := add64Entry) (by kernel_rfl), run_add64 x y c hx.1 hy.1 hc.1 hc.2]
  rfl
theorem sub64_calls (x y c : Int) (hx : Wrd x) (hy : Wrd y) (hc : 0 ≤ c ∧ c ≤ 1) (w : World) :
    (callFunc 105 #[.int .u64 x, .int .u64 y, .int .u64 c]).run Tryz.prog w =
      .ok (.value (.tuple #[.int .u64 ((x - y - c) % 18446744073709551616), .int .u64 (brw x (y + c))])) w := by
  obtain ⟨X, rfl⟩ := Int.eq_ofNat_of_zero_le hx.1
  obtain ⟨Y, rfl⟩ := Int.eq_ofNat_of_zero_le hy.1
  obtain ⟨B, rfl⟩ := Int.eq_ofNat_of_zero_le hc.1
  have h1 := hx.2
  have h2 := hy.2
  have h3 := hc.2
  rw [run_callFunc_extern Tryz.func105 (by kernel_rfl) (by kernel_rfl) (by kernel_rfl) (e := sub64Entry) (by kernel_rfl), run_sub64 X Y B (by omega)]
  have e1 : (((X + 18446744073709551616 - Y - B) % 18446744073709551616 : Nat) : Int) = ((X : Int) - Y - B) % 18446744073709551616 := by omega
  have e2 : ((if X < Y + B then 1 else 0 : Nat) : Int) = brw (X : Int) (Y + B) := by
    unfold brw
    by_cases h : X < Y + B
    · rw [if_pos h, if_pos (by omega)]; rfl
    · rw [if_neg h, if_neg (by omega)]; rfl
  rw [e1, e2]
  rfl
theorem bitsAdd_calls (x y c : Int) (hx : Wrd x) (hy : Wrd y) (hc : 0 ≤ c ∧ c ≤ 1) (w : World) :
    Calls Tryz.prog 95 #[.int .u64 x, .int .u64 y, .int .u64 c] w fun e w' => e = .returned (.tuple #[.int .u64 ((x + y + c) % 18446744073709551616), .int .u64 ((x + y + c) / 18446744073709551616)]) ∧ w = w' := by
  go_enter Tryz.func95, Tryz.ntmps95
  go_wp2_with (simp only [add64_calls x y c hx hy hc])
  go_ret2
  exact ⟨rfl, rfl⟩
theorem bitsSub_calls (x y c : Int) (hx : Wrd x) (hy : Wrd y) (hc : 0 ≤ c ∧ c ≤ 1) (w : World) :
    Calls Tryz.prog 98 #[.int .u64 x, .int .u64 y, .int .u64 c] w fun e w' => e = .returned (.tuple #[.int .u64 ((x - y - c) % 18446744073709551616), .int .u64 (brw x (y + c))]) ∧ w = w' := by
  go_enter Tryz.func98, Tryz.ntmps98
  go_wp2_with (simp only [sub64_calls x y c hx hy hc])
  go_ret2
  exact ⟨rfl, rfl⟩
def flatCon (f : FuncId) (en : ∀ (args : Array Value) (w : World), (callFunc f args).run cx.P w = .ok (.enter f args) w) (pre : Int × Int × Int → List Prop) (out : Int × Int × Int → SV) (val : Int × Int × Int → Value) (hd : ∀ ρ a, den ρ (out a) (val a))
    (h : ∀ a w, conj (pre a) → Calls cx.P f #[.int .u64 a.1, .int .u64 a.2.1, .int .u64 a.2.2] w fun e w' => e = .returned (val a) ∧ w = w') : Con cx :=
  mkCon f en (rds3 (rdI .u64) (rdI .u64) (rdI .u64)) pre out fun a ze W vs hp hG hz hdv => by
    obtain ⟨v1, r1, rfl, h1, hdv⟩ := denL_cons hdv
    obtain ⟨v2, r2, rfl, h2, hdv⟩ := denL_cons hdv
    obtain ⟨v3, r3, rfl, h3, hdv⟩ := denL_cons hdv
    obtain rfl := denL_nil hdv
    obtain rfl : v1 = _ := h1
    obtain rfl : v2 = _ := h2
    obtain rfl : v3 = _ := h3
    refine (h a W hp).mono ?_
    rintro e W' ⟨rfl, rfl⟩
    exact ⟨_, fun _ _ _ => False, rfl, Gr.refl _, fun _ _ _ h => h.elim, hd _ a⟩
noncomputable def conAdd : Con cx := flatCon 95 Tryz.call95 (fun a => [Wrd a.1, Wrd a.2.1, 0 ≤ a.2.2 ∧ a.2.2 ≤ 1]) addS (fun a => .tuple #[.int .u64 ((a.1 + a.2.1 + a.2.2) % 18446744073709551616), .int .u64 ((a.1 + a.2.1 + a.2.2) / 18446744073709551616)]) (fun ρ a => ⟨[_, _], ⟨_, _, rfl, rfl, _, _, rfl, rfl, rfl⟩, rfl⟩)
  fun a w ⟨h1, h2, h3⟩ => bitsAdd_calls a.1 a.2.1 a.2.2 h1 h2 h3 w
noncomputable def conSub : Con cx := flatCon 98 Tryz.call98 (fun a => [Wrd a.1, Wrd a.2.1, 0 ≤ a.2.2 ∧ a.2.2 ≤ 1]) subS (fun a => .tuple #[.int .u64 ((a.1 - a.2.1 - a.2.2) % 18446744073709551616), .int .u64 (brw a.1 (a.2.1 + a.2.2))]) (fun ρ a => ⟨[_, _], ⟨_, _, rfl, rfl, _, _, rfl, rfl, rfl⟩, rfl⟩)
  fun a w ⟨h1, h2, h3⟩ => bitsSub_calls a.1 a.2.1 a.2.2 h1 h2 h3 w
def mulS (a : Int × Int) : SV := .tup [u64 (a.1 * a.2 / 18446744073709551616), u64 (a.1 * a.2 % 18446744073709551616)]
set_option maxHeartbeats 2000000 in
set_option maxRecDepth 8000 in
theorem Mul64_walk : ∀ a, conj ((fun a => [Wrd a.1, Wrd a.2]) a) → evFn (C := cx) [] [] 0 noHow Tryz.f136 ((rds2 (rdI .u64) (rdI .u64)).enc a) fun v H _ => resOut (mulS a) H v := by
  intro ⟨n, m⟩ ⟨hn, hm⟩
  obtain ⟨hm0, hm⟩ : 0 ≤ m ∧ m < 18446744073709551616 := hm
  obtain ⟨hn0, hn⟩ : 0 ≤ n ∧ n < 18446744073709551616 := hn
  have ha : 0 ≤ n / 4294967296 ∧ n / 4294967296 ≤ 4294967295 := by omega
  have hb : 0 ≤ n % 4294967296 ∧ n % 4294967296 ≤ 4294967295 := by omega
  have hc : 0 ≤ m / 4294967296 ∧ m / 4294967296 ≤ 4294967295 := by omega
  have hd : 0 ≤ m % 4294967296 ∧ m % 4294967296 ≤ 4294967295 := by omega
  have e1 : n = n / 4294967296 * 4294967296 + n % 4294967296 := by omega
  have e2 : m = m / 4294967296 * 4294967296 + m % 4294967296 := by omega
  have hs : n * m = n / 4294967296 * (m / 4294967296) * 18446744073709551616 + (n / 4294967296 * (m % 4294967296) + n % 4294967296 * (m / 4294967296)) * 4294967296 + n % 4294967296 * (m % 4294967296) := by
    conv => lhs; rw [e1, e2]
    grind
  repeat' (first | (refine And.intro ?_ ?_) | (intro _))
  all_goals (try (refine Eq.trans ?_ rfl))
  all_goals (try simp only [rds2, rdI, hdS, tlS, SV.al, SV.iv, constSV, wu, p32, fd32] at *)
  all_goals (try simp only [and32 hn0 hn, and32 hm0 hm])
  all_goals (rw [hs])
  all_goals (generalize n / 4294967296 = a at *)
  all_goals (generalize n % 4294967296 = b at *)
  all_goals (generalize m / 4294967296 = c at *)
  all_goals (generalize m % 4294967296 = d at *)
  all_goals (have p1 : 0 ≤ b * d ∧ b * d ≤ 4294967295 * 4294967295 := ⟨Int.mul_nonneg hb.1 hd.1, Int.mul_le_mul hb.2 hd.2 hd.1 (by omega)⟩)
  all_goals (have p2 : 0 ≤ a * d ∧ a * d ≤ 4294967295 * 4294967295 := ⟨Int.mul_nonneg ha.1 hd.1, Int.mul_le_mul ha.2 hd.2 hd.1 (by omega)⟩)
  all_goals (have p3 : 0 ≤ b * c ∧ b * c ≤ 4294967295 * 4294967295 := ⟨Int.mul_nonneg hb.1 hc.1, Int.mul_le_mul hb.2 hc.2 hc.1 (by omega)⟩)
  all_goals (have p4 : 0 ≤ a * c ∧ a * c ≤ 4294967295 * 4294967295 := ⟨Int.mul_nonneg ha.1 hc.1, Int.mul_le_mul ha.2 hc.2 hc.1 (by omega)⟩)
  all_goals (generalize b * d = bd at *)
  all_goals (generalize a * d = ad at *)
  all_goals (generalize b * c = bc at *)
  all_goals (generalize a * c = ac at *)
  all_goals (clear e1 e2 hs)
  all_goals (rw [show bd % 18446744073709551616 = bd by omega, show ad % 18446744073709551616 = ad by omega])
  rw [show bc % 18446744073709551616 = bc by omega, show ac % 18446744073709551616 = ac by omega]
  rw [show (ad + bd / 4294967296) % 18446744073709551616 = ad + bd / 4294967296 by omega]
  rw [and32 (by omega) (by omega)]
  omega
noncomputable def conMul64 : Con cx := walkCon 136 Tryz.call136 (rds2 (rdI .u64) (rdI .u64)) (fun a => [Wrd a.1, Wrd a.2]) mulS (fun _ => noHow) [] (fun _ => rfl) follows Tryz.func136 (by kernel_rfl) Mul64_walk
set_option maxHeartbeats 2000000 in
theorem BMul_walk : ∀ a, conj ((fun a => [Wrd a.1, Wrd a.2]) a) → evFn (C := cx) [conMul64] [] 0 noHow Tryz.f122 ((rds2 (rdI .u64) (rdI .u64)).enc a) fun v H _ => resOut (mulS a) H v := by
  intro ⟨n, m⟩ ⟨hn, hm⟩
  repeat' (first | exact hn | exact hm | exact rfl | (refine And.intro ?_ ?_) | (intro _))
noncomputable def conBMul : Con cx := walkCon 122 Tryz.call122 (rds2 (rdI .u64) (rdI .u64)) (fun a => [Wrd a.1, Wrd a.2]) mulS (fun _ => noHow) [] (fun _ => rfl) follows Tryz.func122 (by kernel_rfl) BMul_walk
end Go.Proofs.YtcojfohjdibjjaaGreatDoor
namespace Go.Proofs.YtcojfohjdibjjaaGreatDoor
open Go.RowKit

/-- A row of words as the machine has it; that of a number. -/
def Fam.ws (f : Fam) : SV := .rs 1 f.n fun i => [u64 (f.g i)]
def natF (x : Int) : Fam := ⟨lenI x, wordI x⟩
def Fam.val (f : Fam) : Int := valN f.g f.n
/-- A number as the library keeps it, of not too many words. -/
structure Fam.Nat (f : Fam) : Prop where
  k : Nrm f.g f.n
  n : f.n ≤ 19
theorem Fam.Nat.nn {f : Fam} (h : f.Nat) : 0 ≤ f.val := valN_nn h.k.w
theorem natF_val {x : Int} (h : 0 ≤ x) : (natF x).val = x := valN_len h
theorem natF_ok {x : Int} (h : x < 18446744073709551616 ^ 19) : (natF x).Nat := ⟨nrm_word x, lenI_le h⟩
def cmpCut (f g : Fam) : Cut := ⟨Nat, fun i => i < f.n ∧ ∀ j, i < j → j < f.n → f.g j = g.g j,
  fun i => ⟨[sl 0 f.ws, sl 1 g.ws, sl 4 (.il .i64 0), sl 5 (.v (.int .i64 f.n)), sl 6 (.v (.int .i64 g.n)), sl 7 (.v (.int .i64 i))], [], 0, 0, [], []⟩, fun i => i⟩
set_option maxHeartbeats 2000000 in
set_option maxRecDepth 8000 in
theorem NCmp_walk : ∀ a, conj ((fun (a : Fam × Fam) => [a.1.Nat, a.2.Nat]) a) → evFn (C := cx) [] [] 0 ⟨[1003], [], [9], 0⟩ Tryz.f79 ((rds2 (rdF .u64) (rdF .u64)).enc a) fun v H _ => resOut (.v (.int .i64 (cmpI a.1.val a.2.val))) H v := by
  intro ⟨f, g⟩ ⟨hf, hg⟩
  replace hf : f.Nat := hf
  replace hg : g.Nat := hg
  have fn := hf.n
  have gn := hg.n
  refine And.intro (fun h1 => ?_) (fun h1 => ?_)
  · have h1 : decide (¬ ((f.n : Int) = g.n)) = false := h1
    have h1 : f.n = g.n := by
      have := of_decide_eq_false h1
      omega
    refine And.intro (fun h2 => ?_) (fun h2 => ?_)
    · have h2 : (f.n : Int) = 0 := of_decide_eq_true h2
      refine And.intro (fun h3 => ?_) (fun _ => ?_)
      · have h3 : (f.n : Int) < g.n := of_decide_eq_true h3
        omega
      refine And.intro (fun h3 => ?_) (fun _ => ?_)
      · have h3 : (g.n : Int) < f.n := of_decide_eq_true h3
        omega
      refine Eq.trans (a := cmpI f.val g.val) (b := 0) ?_ rfl
      have e1 : f.n = 0 := by omega
      have e2 : g.n = 0 := by omega
      unfold Fam.val; rw [e1, e2]; rfl
    have h2 : ¬ (f.n : Int) = 0 := of_decide_eq_false h2
    refine And.intro (by constructor <;> omega : -9223372036854775808 ≤ (f.n : Int) - 1 ∧ (f.n : Int) - 1 ≤ 9223372036854775807) ?_
    refine Exists.intro (cmpCut f g) ?_
    refine And.intro ?_ ?_
    · refine ⟨f.n - 1, [], [], trivial, ⟨by omega, fun j q1 q2 => by omega⟩, ?_⟩
      repeat' (first | exact rfl | (refine And.intro ?_ ?_) | (intro _))
      show ((f.n - 1 : Nat) : Int) = f.n - 1
      omega
    refine fun (i : Nat) hP => ?_
    obtain ⟨hi, hj⟩ : i < f.n ∧ ∀ j, i < j → j < f.n → f.g j = g.g j := hP
    refine And.intro (show decide (0 < (i : Int)) = true → 0 ≤ (i : Int) ∧ (i : Int) < f.n from fun _ => by omega) ?_
    refine And.intro (show decide (0 < (i : Int)) = true → 0 ≤ (i : Int) ∧ (i : Int) < g.n from fun _ => by omega) ?_
    have ti : (i : Int).toNat = i := Int.toNat_natCast i
    refine And.intro (fun h3 => ?_) (fun h3 => ?_)
    · have h3 : (decide (0 < (i : Int)) && decide (f.g (i : Int).toNat = g.g (i : Int).toNat)) = true := h3
      rw [ti] at h3
      simp only [Bool.and_eq_true, decide_eq_true_eq] at h3
      refine And.intro (by constructor <;> omega : -9223372036854775808 ≤ (i : Int) - 1 ∧ (i : Int) - 1 ≤ 9223372036854775807) ?_
      refine ⟨i - 1, [], [], (show i - 1 < i by omega), ⟨by omega, fun j q1 q2 => ?_⟩, ?_⟩
      · by_cases e : j = i
        · rw [e]; exact h3.2
        · exact hj j (by omega) q2
      repeat' (first | exact rfl | (refine And.intro ?_ ?_) | (intro _))
      show ((i - 1 : Nat) : Int) = i - 1
      omega
    · have h3 : (decide (0 < (i : Int)) && decide (f.g (i : Int).toNat = g.g (i : Int).toNat)) = false := h3
      rw [ti] at h3
      simp only [Bool.and_eq_false_iff, decide_eq_false_iff_not] at h3
      have wg := hg.k.w
      rw [← h1] at wg
      have vg : g.val = valN g.g f.n := by unfold Fam.val; rw [h1]
      refine And.intro (⟨by omega, by omega⟩ : 0 ≤ (i : Int) ∧ (i : Int) < f.n) ?_
      refine And.intro (⟨by omega, by omega⟩ : 0 ≤ (i : Int) ∧ (i : Int) < g.n) ?_
      refine And.intro (fun h4 => ?_) (fun h4 => ?_)
      · have h4 : decide (f.g (i : Int).toNat < g.g (i : Int).toNat) = true := h4
        rw [ti] at h4
        have h4 := of_decide_eq_true h4
        refine Eq.trans (a := cmpI f.val g.val) (b := -1) (cmpI_neg1 ?_) rfl
        rw [vg]; exact valN_cmp hf.k.w wg hi hj h4
      have h4 : decide (f.g (i : Int).toNat < g.g (i : Int).toNat) = false := h4
      rw [ti] at h4
      have h4 := of_decide_eq_false h4
      refine And.intro (⟨by omega, by omega⟩ : 0 ≤ (i : Int) ∧ (i : Int) < f.n) ?_
      refine And.intro (⟨by omega, by omega⟩ : 0 ≤ (i : Int) ∧ (i : Int) < g.n) ?_
      refine And.intro (fun h5 => ?_) (fun h5 => ?_)
      · have h5 : decide (g.g (i : Int).toNat < f.g (i : Int).toNat) = true := h5
        rw [ti] at h5
        have h5 := of_decide_eq_true h5
        refine Eq.trans (a := cmpI f.val g.val) (b := 1) (cmpI_one ?_) rfl
        rw [vg]; exact valN_cmp wg hf.k.w hi (fun j q1 q2 => (hj j q1 q2).symm) h5
      have h5 : decide (g.g (i : Int).toNat < f.g (i : Int).toNat) = false := h5
      rw [ti] at h5
      have h5 := of_decide_eq_false h5
      have h6 : i = 0 := by
        rcases h3 with h3 | h3 <;> omega
      refine Eq.trans (a := cmpI f.val g.val) (b := 0) ?_ rfl
      have e : f.val = g.val := by
        rw [vg]
        refine valN_congr fun j hjn => ?_
        by_cases e : j = i
        · rw [e]; omega
        · exact hj j (by omega) hjn
      rw [e, cmpI_self]
  · have h1 : decide (¬ ((f.n : Int) = g.n)) = true := h1
    have h1 : ¬ (f.n : Int) = g.n := of_decide_eq_true h1
    refine And.intro (fun h3 => ?_) (fun h3 => ?_)
    · have h3 : (f.n : Int) < g.n := of_decide_eq_true h3
      refine Eq.trans (a := cmpI f.val g.val) (b := -1) (cmpI_neg1 (nrm_lt hf.k hg.k (by omega))) rfl
    have h3 : ¬ (f.n : Int) < g.n := of_decide_eq_false h3
    refine And.intro (fun h4 => ?_) (fun h4 => ?_)
    · refine Eq.trans (a := cmpI f.val g.val) (b := 1) (cmpI_one (nrm_lt hg.k hf.k (by omega))) rfl
    · have h4 : ¬ (g.n : Int) < f.n := of_decide_eq_false h4
      omega
noncomputable def conNCmp : Con cx := walkCon 79 Tryz.call79 (rds2 (rdF .u64) (rdF .u64)) (fun a => [a.1.Nat, a.2.Nat]) (fun a => .v (.int .i64 (cmpI a.1.val a.2.val))) (fun _ => ⟨[1003], [], [9], 0⟩) [1003] (fun _ => rfl) follows Tryz.func79 (by kernel_rfl) NCmp_walk
end Go.Proofs.YtcojfohjdibjjaaGreatDoor
