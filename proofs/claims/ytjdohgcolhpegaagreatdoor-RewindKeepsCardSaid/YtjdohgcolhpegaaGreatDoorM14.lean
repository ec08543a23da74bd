/- Places of a segment: their order is transitive. Plain laws of Blind. Plain laws of the bodies of a world, and of what Blind tells. -/
import Derived.Test.YtjdohgcolhpegaaGreatDoorM0
import Derived.Test.YtjdohgcolhpegaaGreatDoorM13
namespace Go.Proofs.YtjdohgcolhpegaaGreatDoor

theorem sq_floor (M : Nat) : ∃ t : Int, 0 ≤ t ∧ t * t ≤ M ∧ (M : Int) < (t + 1) * (t + 1) := by
  induction M with
  | zero => exact ⟨0, by decide, by decide, by decide⟩
  | succ m ih =>
    obtain ⟨t, h1, h2, h3⟩ := ih
    by_cases c : (t + 1) * (t + 1) ≤ ((m + 1 : Nat) : Int)
    · refine ⟨t + 1, by omega, c, ?_⟩
      have e : (t + 1 + 1) * (t + 1 + 1) = (t + 1) * (t + 1) + 2 * t + 3 := by grind
      rw [e]
      push_cast
      omega
    · refine ⟨t, h1, ?_, by omega⟩
      push_cast
      omega
theorem of_sq_le {a b : Int} (hb : 0 ≤ b) (h : a * a ≤ b * b) : a ≤ b := of_sq hb h
/-- Both have roots; the first numerator is not less. -/
theorem dense_ge {sx sz d : Int} (hx : 0 ≤ sx) (hz : 0 ≤ sz) (hd : 0 ≤ d) (H : ∀ K t : Int, 0 < K → 0 ≤ t → t * t ≤ K * K * sz → K * K * sz < (t + 1) * (t + 1) → (K * d + t) * (K * d + t) ≤ K * K * sx) :
    0 ≤ sx - sz - d * d ∧ 4 * d * d * sz ≤ (sx - sz - d * d) * (sx - sz - d * d) := by
  obtain ⟨D, hD⟩ : ∃ D, D = sx - sz - d * d := ⟨_, rfl⟩
  rw [← hD]
  have step : ∀ K : Int, 0 < K → ∃ t : Int, 0 ≤ t ∧ t ≤ K * sz ∧ K * K * sz - 2 * t ≤ t * t ∧ 2 * d * t ≤ K * D + 2 * sz := by
    intro K hK
    have hKK : 0 ≤ K * K * sz := Int.mul_nonneg (Int.mul_nonneg (Int.le_of_lt hK) (Int.le_of_lt hK)) hz
    obtain ⟨t, h1, h2, h3⟩ := sq_floor (K * K * sz).toNat
    rw [Int.toNat_of_nonneg hKK] at h2 h3
    have e3 : (t + 1) * (t + 1) = t * t + 2 * t + 1 := by grind
    have hk := H K t hK h1 h2 h3
    have ht : t ≤ K * sz := by
      refine of_sq (Int.mul_nonneg (Int.le_of_lt hK) hz) (Int.le_trans h2 ?_)
      rcases Int.lt_or_le 0 sz with c | c
      · have h4 : K * K * sz * 1 ≤ K * K * sz * sz := Int.mul_le_mul_of_nonneg_left (by omega) hKK
        have e4 : K * sz * (K * sz) = K * K * sz * sz := by grind
        omega
      · have c : sz = 0 := by omega
        subst c; simp
    refine ⟨t, h1, ht, by omega, ?_⟩
    have e1 : (K * d + t) * (K * d + t) = K * K * (d * d) + 2 * K * d * t + t * t := by grind
    have e2 : K * K * sx = K * K * D + K * K * sz + K * K * (d * d) := by rw [hD]; grind
    have h5 : 2 * K * d * t - 2 * t ≤ K * K * D := by omega
    have h6 : K * (2 * d * t) ≤ K * (K * D + 2 * sz) := by
      have e5 : K * (2 * d * t) = 2 * K * d * t := by grind
      have e6 : K * (K * D + 2 * sz) = K * K * D + 2 * (K * sz) := by grind
      omega
    exact Int.le_of_mul_le_mul_left h6 hK
  have hD0 : 0 ≤ D := by
    rcases Int.lt_or_le D 0 with c | c
    · exfalso
      obtain ⟨t, h1, h2, h3, h4⟩ := step (2 * sz + 1) (by omega)
      have h5 : 0 ≤ 2 * d * t := Int.mul_nonneg (by omega) h1
      have h6 : (2 * sz + 1) * D ≤ (2 * sz + 1) * (-1) := Int.mul_le_mul_of_nonneg_left (by omega) (by omega)
      omega
    · exact c
  refine ⟨hD0, ?_⟩
  rcases Int.lt_or_le (D * D) (4 * d * d * sz) with c | c
  · exfalso
    have hdd : 0 ≤ d * d := Int.mul_nonneg hd hd
    have n1 : 0 ≤ D * sz := Int.mul_nonneg hD0 hz
    have n2 : 0 ≤ d * d * sz := Int.mul_nonneg hdd hz
    have n3 : 0 ≤ sz * sz := Int.mul_nonneg hz hz
    obtain ⟨K, hK⟩ : ∃ K, K = 4 * (D * sz) + 8 * (d * d * sz) + 4 * (sz * sz) + 1 := ⟨_, rfl⟩
    have hK1 : 1 ≤ K := by omega
    obtain ⟨t, h1, h2, h3, h4⟩ := step K (by omega)
    have h5 : 0 ≤ 2 * d * t := Int.mul_nonneg (by omega) h1
    have h6 := sq_le h5 h4
    have e1 : 2 * d * t * (2 * d * t) = 4 * (d * d) * (t * t) := by grind
    have h7 : 4 * (d * d) * (K * K * sz - 2 * t) ≤ 4 * (d * d) * (t * t) := Int.mul_le_mul_of_nonneg_left h3 (by omega)
    have e2 : 4 * (d * d) * (K * K * sz - 2 * t) = K * K * (4 * d * d * sz) - 8 * (d * d * t) := by grind
    have h8 : d * d * t ≤ d * d * (K * sz) := Int.mul_le_mul_of_nonneg_left h2 hdd
    have e3 : d * d * (K * sz) = K * (d * d * sz) := by grind
    have h9 : K * K * (D * D + 1) ≤ K * K * (4 * d * d * sz) := Int.mul_le_mul_of_nonneg_left (by omega) (sq_nn K)
    have e4 : (K * D + 2 * sz) * (K * D + 2 * sz) = K * K * (D * D) + 4 * (K * (D * sz)) + 4 * (sz * sz) := by grind
    have e5 : K * K * (D * D + 1) = K * K * (D * D) + K * K := by grind
    have e6 : K * K = 4 * (K * (D * sz)) + 8 * (K * (d * d * sz)) + K * (4 * (sz * sz)) + K := by
      have : K * K = K * (4 * (D * sz) + 8 * (d * d * sz) + 4 * (sz * sz) + 1) := by rw [← hK]
      rw [this]; grind
    have h10 : 1 * (4 * (sz * sz)) ≤ K * (4 * (sz * sz)) := Int.mul_le_mul_of_nonneg_right hK1 (by omega)
    omega
  · exact c
/-- Both have roots; the first numerator is less. -/
theorem dense_lt {sx sz e : Int} (hx : 0 ≤ sx) (hz : 0 ≤ sz) (he : 0 < e) (H : ∀ K t : Int, 0 < K → 0 ≤ t → t * t ≤ K * K * sz → K * K * sz < (t + 1) * (t + 1) → t - K * e ≤ 0 ∨ (t - K * e) * (t - K * e) ≤ K * K * sx) :
    sz - sx - e * e < 0 ∨ (sz - sx - e * e) * (sz - sx - e * e) ≤ 4 * e * e * sx := by
  obtain ⟨D, hD⟩ : ∃ D, D = sz - sx - e * e := ⟨_, rfl⟩
  rw [← hD]
  rcases Int.lt_or_le D 0 with c | c
  · exact .inl c
  right
  rcases Int.lt_or_le (4 * e * e * sx) (D * D) with c2 | c2
  · exfalso
    have hee : 0 ≤ e * e := sq_nn e
    have n0 : 0 ≤ 4 * e * e * sx := Int.mul_nonneg (Int.mul_nonneg (Int.mul_nonneg (by decide) (Int.le_of_lt he)) (Int.le_of_lt he)) hx
    have hD1 : 1 ≤ D := by
      rcases Int.lt_or_le 0 D with h | h
      · omega
      · have h : D = 0 := by omega
        rw [h] at c2; omega
    obtain ⟨k, hk⟩ : ∃ k, k = 2 * (sx + e) := ⟨_, rfl⟩
    have hk0 : 0 ≤ k := by omega
    have n1 : 0 ≤ D * k := Int.mul_nonneg c hk0
    obtain ⟨K, hK⟩ : ∃ K, K = 2 * (D * k) + 2 * e + k + 1 := ⟨_, rfl⟩
    have hK1 : 1 ≤ K := by omega
    have hKK : 0 ≤ K * K * sz := Int.mul_nonneg (sq_nn K) hz
    obtain ⟨t, h1, h2, h3⟩ := sq_floor (K * K * sz).toNat
    rw [Int.toNat_of_nonneg hKK] at h2 h3
    have e3 : (t + 1) * (t + 1) = t * t + 2 * t + 1 := by grind
    have es : K * K * sz = K * K * D + K * K * sx + K * K * (e * e) := by rw [hD]; grind
    have nsx : 0 ≤ K * K * sx := Int.mul_nonneg (sq_nn K) hx
    have nD : K * K * 1 ≤ K * K * D := Int.mul_le_mul_of_nonneg_left hD1 (sq_nn K)
    obtain ⟨u, hu⟩ : ∃ u, u = t - K * e := ⟨_, rfl⟩
    have hKe : 0 ≤ K * e := Int.mul_nonneg (by omega) (Int.le_of_lt he)
    have hH := H K t (by omega) h1 h2 h3
    rw [← hu] at hH
    by_cases cu : u ≤ 0
    · have h4 : t ≤ K * e := by omega
      have h5 := sq_le h1 h4
      have e5 : K * e * (K * e) = K * K * (e * e) := by grind
      have h6 : K * K ≤ 2 * (K * e) := by omega
      have e6 : K * K = K * (2 * (D * k)) + 2 * (K * e) + K * k + K := by
        have : K * K = K * (2 * (D * k) + 2 * e + k + 1) := by rw [← hK]
        rw [this]; grind
      have n2 : 0 ≤ K * (2 * (D * k)) := Int.mul_nonneg (by omega) (by omega)
      have n3 : 0 ≤ K * k := Int.mul_nonneg (by omega) hk0
      omega
    · have hH := hH.resolve_left cu
      have hu0 : 0 ≤ u := by omega
      have huK : u ≤ K * sx := by
        refine of_sq (Int.mul_nonneg (by omega) hx) (Int.le_trans hH ?_)
        rcases Int.lt_or_le 0 sx with q | q
        · have h4 : K * K * sx * 1 ≤ K * K * sx * sx := Int.mul_le_mul_of_nonneg_left (by omega) nsx
          have e4 : K * sx * (K * sx) = K * K * sx * sx := by grind
          omega
        · have q : sx = 0 := by omega
          subst q; simp
      have et : t = u + K * e := by omega
      have e4 : t * t = u * u + 2 * (u * (K * e)) + K * K * (e * e) := by rw [et]; grind
      have h5 : K * K * D ≤ 2 * (u * (K * e)) + 2 * u + 2 * (K * e) := by omega
      have h6 : K * (K * D) ≤ K * (2 * (u * e) + k) := by
        have e7 : K * (2 * (u * e) + k) = 2 * (u * (K * e)) + 2 * (K * sx) + 2 * (K * e) := by rw [hk]; grind
        have e8 : K * (K * D) = K * K * D := by grind
        omega
      have h7 := Int.le_of_mul_le_mul_left h6 (by omega : 0 < K)
      have h8 : 0 ≤ K * D - k := by
        have : K * 1 ≤ K * D := Int.mul_le_mul_of_nonneg_left hD1 (by omega)
        omega
      have h9 := sq_le h8 (by omega : K * D - k ≤ 2 * (u * e))
      have e9 : 2 * (u * e) * (2 * (u * e)) = 4 * e * e * (u * u) := by grind
      have h10 : 4 * e * e * (u * u) ≤ 4 * e * e * (K * K * sx) := Int.mul_le_mul_of_nonneg_left hH (Int.mul_nonneg (Int.mul_nonneg (by decide) (Int.le_of_lt he)) (Int.le_of_lt he))
      have e10 : 4 * e * e * (K * K * sx) = K * K * (4 * e * e * sx) := by grind
      have h11 : K * K * (4 * e * e * sx) ≤ K * K * (D * D - 1) := Int.mul_le_mul_of_nonneg_left (by omega) (sq_nn K)
      have e11 : (K * D - k) * (K * D - k) = K * K * (D * D) - 2 * (K * (D * k)) + k * k := by grind
      have e12 : K * K * (D * D - 1) = K * K * (D * D) - K * K := by grind
      have e13 : K * K = 2 * (K * (D * k)) + 2 * (K * e) + K * k + K := by
        have : K * K = K * (2 * (D * k) + 2 * e + k + 1) := by rw [← hK]
        rw [this]; grind
      have n3 : 0 ≤ K * k := Int.mul_nonneg (by omega) hk0
      have n4 := sq_nn k
      omega
  · exact c2
/-- What is at most each rational number that the other one is at most, is not greater. -/
theorem ord_of_le {x z : Plc} (hxm : 0 < x.m) (hzm : 0 < z.m) (hxs : 0 ≤ x.s) (hzs : 0 ≤ z.s) (hm : x.s ≠ 0 → z.s ≠ 0 → x.m = z.m) (H : ∀ a b : Int, 0 < b → z.le a b → x.le a b) : ordP x z ≤ 0 := by
  by_cases cz : z.s = 0
  · have e : z = ⟨z.n, 0, z.m⟩ := by obtain ⟨n, s, m⟩ := z; simp only [Plc.mk.injEq, true_and, and_true]; exact cz
    rw [e, ordP_le hxs]
    exact H _ _ hzm ((Plc.le_flat cz).2 (Int.le_refl _))
  by_cases cx : x.s = 0
  · have e : x = ⟨x.n, 0, x.m⟩ := by obtain ⟨n, s, m⟩ := x; simp only [Plc.mk.injEq, true_and, and_true]; exact cx
    rcases Int.lt_or_le 0 (ordP x z) with c | c
    · exfalso
      have h1 := ordP_neg x z
      have h2 : ordP z ⟨x.n, 0, x.m⟩ < 0 := by rw [← e]; omega
      have h3 := (ordP_lt hzs hxm).1 h2
      obtain ⟨K, hK, hle⟩ : ∃ K, 0 < K ∧ z.le (x.n * K - 1) (x.m * K) := by
        unfold Plc.lt at h3
        obtain ⟨N, hN⟩ : ∃ N, N = z.n * x.m - x.n * z.m := ⟨_, rfl⟩
        rw [← hN] at h3
        have key : ∀ K, z.n * (x.m * K) - (x.n * K - 1) * z.m = N * K + z.m := fun K => by rw [hN]; grind
        rcases Int.lt_or_le N 0 with hneg | hpos
        · refine ⟨z.m, hzm, .inl ?_⟩
          rw [key]
          have : N * z.m ≤ (-1) * z.m := Int.mul_le_mul_of_nonneg_right (by omega) (by omega)
          omega
        · have hlt : N * N < x.m * x.m * z.s := by
            rcases h3 with h | h
            · omega
            · exact h
          obtain ⟨K, hK⟩ : ∃ K, K = 2 * N * z.m + z.m * z.m + 1 := ⟨_, rfl⟩
          have hNm : 0 ≤ 2 * N * z.m := Int.mul_nonneg (by omega) (by omega)
          have hmm := sq_nn z.m
          have hK1 : 1 ≤ K := by omega
          refine ⟨K, by omega, .inr ?_⟩
          rw [key]
          have e1 : (N * K + z.m) * (N * K + z.m) = N * N * (K * K) + (2 * N * z.m) * K + z.m * z.m := by grind
          have e2 : x.m * K * (x.m * K) * z.s = x.m * x.m * z.s * (K * K) := by grind
          have h1 : (N * N + 1) * (K * K) ≤ x.m * x.m * z.s * (K * K) := Int.mul_le_mul_of_nonneg_right (by omega) (sq_nn K)
          have e3 : (N * N + 1) * (K * K) = N * N * (K * K) + K * K := by grind
          have h2 : K * K = (2 * N * z.m) * K + (z.m * z.m) * K + K := by
            have : K * K = (2 * N * z.m + z.m * z.m + 1) * K := by rw [← hK]
            rw [this]; grind
          have h3 : z.m * z.m * 1 ≤ z.m * z.m * K := Int.mul_le_mul_of_nonneg_left hK1 hmm
          rw [e1, e2]
          omega
      have h4 := (Plc.le_flat cx).1 (H _ _ (Int.mul_pos hxm hK) hle)
      have e5 : x.n * (x.m * K) = x.n * K * x.m := by grind
      have e6 : (x.n * K - 1) * x.m = x.n * K * x.m - x.m := by grind
      omega
    · exact c
  have em := hm cx cz
  have HH : ∀ K t : Int, 0 < K → 0 ≤ t → t * t ≤ K * K * z.s → K * (x.n - z.n) + t ≤ 0 ∨ (K * (x.n - z.n) + t) * (K * (x.n - z.n) + t) ≤ K * K * x.s := by
    intro K t hK ht h2
    have hb : 0 < K * z.m := Int.mul_pos hK hzm
    have e1 : z.n * (K * z.m) - (K * z.n - t) * z.m = t * z.m := by grind
    have hz : z.le (K * z.n - t) (K * z.m) := by
      right
      rw [e1]
      have : z.m * z.m * (t * t) ≤ z.m * z.m * (K * K * z.s) := Int.mul_le_mul_of_nonneg_left h2 (sq_nn z.m)
      have e2 : t * z.m * (t * z.m) = z.m * z.m * (t * t) := by grind
      have e3 : K * z.m * (K * z.m) * z.s = z.m * z.m * (K * K * z.s) := by grind
      omega
    have hx := H _ _ hb hz
    unfold Plc.le at hx
    have e4 : x.n * (K * z.m) - (K * z.n - t) * x.m = z.m * (K * (x.n - z.n) + t) := by rw [em]; grind
    rw [e4] at hx
    rcases hx with hx | hx
    · left
      rcases Int.lt_or_le 0 (K * (x.n - z.n) + t) with c | c
      · have := Int.mul_pos hzm c; omega
      · exact c
    · right
      have e5 : z.m * (K * (x.n - z.n) + t) * (z.m * (K * (x.n - z.n) + t)) = z.m * z.m * ((K * (x.n - z.n) + t) * (K * (x.n - z.n) + t)) := by grind
      have e6 : K * z.m * (K * z.m) * x.s = z.m * z.m * (K * K * x.s) := by grind
      rw [e5, e6] at hx
      exact Int.le_of_mul_le_mul_left hx (Int.mul_pos hzm hzm)
  unfold ordP
  simp only [cx, cz, false_and, if_false]
  by_cases hn : x.n < z.n
  · rw [if_pos hn]
    have := dense_lt (sx := x.s) (sz := z.s) (e := z.n - x.n) hxs hzs (by omega) (fun K t hK ht h2 h3 => by
      have h := HH K t hK ht h2
      have e : K * (x.n - z.n) + t = t - K * (z.n - x.n) := by grind
      rw [e] at h
      exact h)
    unfold ordB
    split
    · decide
    · rename_i hD
      have h4 := this.resolve_left hD
      have : ¬ cmpI (4 * (z.n - x.n) * (z.n - x.n) * x.s) ((z.s - x.s - (z.n - x.n) * (z.n - x.n)) * (z.s - x.s - (z.n - x.n) * (z.n - x.n))) < 0 := fun c => by
        have := cmpI_lt.1 c
        omega
      omega
  · rw [if_neg hn]
    obtain ⟨h1, h2⟩ := dense_ge (sx := x.s) (sz := z.s) (d := x.n - z.n) hxs hzs (by omega) (fun K t hK ht h2 h3 => by
      rcases HH K t hK ht h2 with h | h
      · have h4 : 0 ≤ K * (x.n - z.n) := Int.mul_nonneg (Int.le_of_lt hK) (by omega)
        have h5 : K * (x.n - z.n) + t = 0 := by omega
        rw [h5]
        have := Int.mul_nonneg (sq_nn K) hxs
        omega
      · exact h)
    unfold ordB
    rw [if_neg (by omega)]
    exact cmpI_le.2 h2
/-- The order is transitive. -/
theorem ordP_tr {x y z : Plc} (hxm : 0 < x.m) (hym : 0 < y.m) (hzm : 0 < z.m) (hxs : 0 ≤ x.s) (hys : 0 ≤ y.s) (hzs : 0 ≤ z.s) (h1 : x.s ≠ 0 → y.s ≠ 0 → x.m = y.m) (h2 : y.s ≠ 0 → z.s ≠ 0 → y.m = z.m) (h3 : x.s ≠ 0 → z.s ≠ 0 → x.m = z.m)
    (hxy : ordP x y ≤ 0) (hyz : ordP y z ≤ 0) : ordP x z ≤ 0 :=
  ord_of_le hxm hzm hxs hzs h3 fun a b hb h => ord_trans hxm hym hxs hys h1 hb hxy (ord_trans hym hzm hys hzs h2 hb hyz h)
end Go.Proofs.YtjdohgcolhpegaaGreatDoor
namespace Go.Proofs.YtjdohgcolhpegaaGreatDoor
open Go.RowKit

/-- Places that have roots, have the segment's length as their divisor. -/
theorem where_m {b : Body} {p q : Vec} (h : (whereP b p q).2 = true) (hs : (whereP b p q).1.s ≠ 0) : (whereP b p q).1.m = segA p q := by
  unfold whereP at *
  split at hs
  · rename_i e
    rw [e] at h
    exact absurd (enter_yes h).1.s hs
  · split at hs
    · exact absurd rfl hs
    · split at hs
      · exact absurd rfl hs
      · rfl
section
variable {F : Nat → Body} {p q : Vec} {m : Nat} (hinc : ∀ i j, i < j → j < m → (F i).iD < (F j).iD)
include hinc
theorem id_inj {i j : Nat} (hi : i < m) (hj : j < m) (h : (F i).iD = (F j).iD) : i = j := by
  rcases Nat.lt_trichotomy i j with c | c | c
  · have := hinc i j c hj; omega
  · exact c
  · have := hinc j i c hi; omega
theorem plK_id {j : Nat} (hj : j < m) (hmet : metB F p q j = true) : ∀ {k : Nat}, j < k → k ≤ m → plK F p q k (F j).iD = (whereP (F j) p q).1
  | 0, h, _ => by omega
  | k + 1, h, h2 => by
    by_cases e : k = j
    · subst e
      simp only [plK, hmet, decide_true]
    · have ih := plK_id hj hmet (k := k) (by omega) (by omega)
      simp only [plK]
      rw [decide_eq_false (fun c => e (id_inj hinc (by omega) hj c.symm))]
      split
      · exact ih
      · exact ih
theorem idsK_pw : ∀ {k : Nat}, k ≤ m → List.Pairwise (· < ·) (idsK F p q k) ∧ ∀ x ∈ idsK F p q k, ∃ j, j < k ∧ metB F p q j = true ∧ x = (F j).iD
  | 0, _ => ⟨List.Pairwise.nil, fun x hx => by cases hx⟩
  | k + 1, h => by
    obtain ⟨h1, h2⟩ := idsK_pw (k := k) (by omega)
    simp only [idsK]
    split
    · rename_i hk
      refine ⟨List.pairwise_append.2 ⟨h1, by simp, fun x hx y hy => ?_⟩, fun x hx => ?_⟩
      · obtain ⟨j, a, -, rfl⟩ := h2 x hx
        obtain rfl : y = (F k).iD := by simpa using hy
        exact hinc j k a (by omega)
      · rcases List.mem_append.1 hx with hx | hx
        · obtain ⟨j, a, b, c⟩ := h2 x hx
          exact ⟨j, by omega, b, c⟩
        · exact ⟨k, by omega, hk, by simpa using hx⟩
    · exact ⟨h1, fun x hx => let ⟨j, a, b, c⟩ := h2 x hx; ⟨j, by omega, b, c⟩⟩
end
structure Plk (p q : Vec) (w : Plc) : Prop where
  m : 0 < w.m
  s : 0 ≤ w.s
  r : w.s ≠ 0 → w.m = segA p q
theorem plk_of {b : Body} {p q : Vec} (h : (whereP b p q).2 = true) : Plk p q (whereP b p q).1 := ⟨(where_pos h).1, (where_pos h).2, where_m h⟩
theorem Plk.tr {p q : Vec} {x y z : Plc} (hx : Plk p q x) (hy : Plk p q y) (hz : Plk p q z) (h1 : ordP x y ≤ 0) (h2 : ordP y z ≤ 0) : ordP x z ≤ 0 :=
  ordP_tr hx.m hy.m hz.m hx.s hy.s hz.s (fun a b => (hx.r a).trans (hy.r b).symm) (fun a b => (hy.r a).trans (hz.r b).symm) (fun a b => (hx.r a).trans (hz.r b).symm) h1 h2
section
variable {F : Nat → Body} {p q : Vec} {m : Nat} (hinc : ∀ i j, i < j → j < m → (F i).iD < (F j).iD)
include hinc
theorem hit_pl {x : Int} (h : x ∈ hitsL m F p q) : ∃ j, j < m ∧ metB F p q j = true ∧ x = (F j).iD ∧ plK F p q m x = (whereP (F j) p q).1 := by
  obtain ⟨j, h1, h2, h3⟩ := (idsK_pw hinc (Nat.le_refl m)).2 x (sortL_mem.1 h)
  exact ⟨j, h1, h2, h3, by rw [h3]; exact plK_id hinc h1 h2 h1 (Nat.le_refl m)⟩
theorem hit_plk {x : Int} (h : x ∈ hitsL m F p q) : Plk p q (plK F p q m x) := by
  obtain ⟨j, -, h2, -, h4⟩ := hit_pl hinc h
  rw [h4]
  exact plk_of h2
/-- The first is ahead of all. -/
theorem head_min : ∀ {k : Nat} (hk : k < (hitsL m F p q).length), ordP (plK F p q m ((hitsL m F p q)[0]'(by omega))) (plK F p q m (hitsL m F p q)[k]) ≤ 0 ∧ (ordP (plK F p q m ((hitsL m F p q)[0]'(by omega))) (plK F p q m (hitsL m F p q)[k]) = 0 → (hitsL m F p q)[0]'(by omega) ≤ (hitsL m F p q)[k])
  | 0, hk => by
    have h := ordP_neg (plK F p q m (hitsL m F p q)[0]) (plK F p q m (hitsL m F p q)[0])
    exact ⟨by omega, fun _ => Int.le_refl _⟩
  | k + 1, hk => by
    obtain ⟨h1, h2⟩ := head_min (k := k) (by omega)
    have nb := sortL_nb (lt := ltK m F p q) (R := fun x y => ordP (plK F p q m x) (plK F p q m y) ≤ 0 ∧ (ordP (plK F p q m x) (plK F p q m y) = 0 → x < y)) (fun x y h => by
      have h := of_decide_eq_true h
      exact ⟨by omega, fun c => by omega⟩) ((idsK_pw hinc (Nat.le_refl m)).1.imp fun {y x} h1 h2 => by
      have h2 := of_decide_eq_false h2
      have := ordP_neg (plK F p q m x) (plK F p q m y)
      exact ⟨by omega, fun _ => h1⟩) hk
    obtain ⟨n1, n2⟩ : ordP (plK F p q m (hitsL m F p q)[k]) (plK F p q m (hitsL m F p q)[k + 1]) ≤ 0 ∧ (ordP (plK F p q m (hitsL m F p q)[k]) (plK F p q m (hitsL m F p q)[k + 1]) = 0 → (hitsL m F p q)[k] < (hitsL m F p q)[k + 1]) := nb
    have p0 := hit_plk hinc (p := p) (q := q) (List.getElem_mem (by omega : 0 < (hitsL m F p q).length))
    have pk := hit_plk hinc (p := p) (q := q) (List.getElem_mem (by omega : k < (hitsL m F p q).length))
    have pn := hit_plk hinc (p := p) (q := q) (List.getElem_mem hk)
    have t := p0.tr pk pn h1 n1
    refine ⟨t, fun e => ?_⟩
    have r1 := ordP_neg (plK F p q m (hitsL m F p q)[0]) (plK F p q m (hitsL m F p q)[k + 1])
    have r2 := pk.tr pn p0 n1 (by omega)
    have r3 := ordP_neg (plK F p q m (hitsL m F p q)[0]) (plK F p q m (hitsL m F p q)[k])
    have r4 := pn.tr p0 pk (by omega) h1
    have r5 := ordP_neg (plK F p q m (hitsL m F p q)[k]) (plK F p q m (hitsL m F p q)[k + 1])
    have := h2 (by omega)
    have := n2 (by omega)
    omega
end
/-- Is a segment right? -/
def segOk (p q : Vec) : Prop := p.In ∧ q.In ∧ shortB p q = true
theorem meets_ok {b : Body} {p q : Vec} (hb : b.ok = true) : meetsB b p q = true ↔ segOk p q ∧ (whereP b p q).2 = true := by
  unfold meetsB
  constructor
  · intro h
    by_cases c : wrongE p q 1 (oneB b) = 0
    · rw [c] at h
      obtain ⟨h1, h2, h3, h4⟩ := one_ok c
      exact ⟨⟨h1, h2, h4⟩, h⟩
    · rw [decide_eq_true c] at h; cases h
  · rintro ⟨⟨h1, h2, h3⟩, h4⟩
    rw [wrongE_of (n := 1) (F := oneB b) h1 h2 (fun _ _ => hb) h3]
    exact h4
/-- What First yields of bodies that are right, and in order. -/
theorem first_none {n : Nat} {F : Nat → Body} {p q : Vec} (hn : n ≤ 12) (hok : ∀ k, k < n → (F k).ok = true) (hinc : ∀ i j, i < j → j < n → (F i).iD < (F j).iD) (h : ¬ (firstE n F p q).2 = 0) : ∀ k, k < n → meetsB (F k) p q = false := by
  intro k hk
  cases hm : meetsB (F k) p q with
  | false => rfl
  | true =>
    exfalso
    obtain ⟨⟨s1, s2, s3⟩, s4⟩ := (meets_ok (hok k hk)).1 hm
    have hu : unsN F 1 (n - 1) = false := unsN_of fun i h1 h2 => hinc (i - 1) i (by omega) (by omega)
    have he : hitsErr n F p q = 0 := by
      unfold hitsErr
      rw [hu, decide_eq_false (by omega)]
      exact wrongE_of s1 s2 hok s3
    have hx : (F k).iD ∈ hitsL n F p q := sortL_mem.2 (by
      have : ∀ m, k < m → (F k).iD ∈ idsK F p q m := by
        intro m
        induction m with
        | zero => intro h; omega
        | succ m ih =>
          intro h
          by_cases e : k = m
          · subst e
            rw [idsK_yes (show metB F p q k = true from s4)]
            simp
          · have := ih (by omega)
            cases hb : metB F p q m with
            | true => rw [idsK_yes hb]; simp [this]
            | false => rw [idsK_nay hb]; exact this
      exact this n hk)
    have hE : hitsE n F p q = hitsL n F p q := by unfold hitsE; rw [he]; rfl
    have hl : 0 < (hitsL n F p q).length := List.length_pos_of_mem hx
    apply h
    unfold firstE
    rw [he, hE, show (decide ((0 : Int) = 0) && decide (((hitsL n F p q).length : Int) = 0)) = false by rw [decide_eq_false (by omega : ¬ ((hitsL n F p q).length : Int) = 0)]; rfl]
    rfl
theorem first_some {n : Nat} {F : Nat → Body} {p q : Vec} (hn : n ≤ 12) (hinc : ∀ i j, i < j → j < n → (F i).iD < (F j).iD) (h : (firstE n F p q).2 = 0) :
    ∃ j, j < n ∧ (F j).iD = (firstE n F p q).1 ∧ segOk p q ∧ (whereP (F j) p q).2 = true ∧ ∀ k, k < n → (whereP (F k) p q).2 = true → ordP (whereP (F j) p q).1 (whereP (F k) p q).1 ≤ 0 ∧ (ordP (whereP (F j) p q).1 (whereP (F k) p q).1 = 0 → (F j).iD ≤ (F k).iD) := by
  have he : hitsErr n F p q = 0 := by
    apply Classical.byContradiction
    intro c
    apply c
    unfold firstE at h
    rw [decide_eq_false c, show (decide (¬ hitsErr n F p q = 0)) = true from decide_eq_true c] at h
    exact h
  have hE : hitsE n F p q = hitsL n F p q := by unfold hitsE; rw [he]; rfl
  have hl : 0 < (hitsL n F p q).length := by
    apply Classical.byContradiction
    intro c
    unfold firstE at h
    rw [he, hE, show (decide ((0 : Int) = 0) && decide (((hitsL n F p q).length : Int) = 0)) = true by rw [decide_eq_true (by omega : ((hitsL n F p q).length : Int) = 0)]; rfl] at h
    have h : (6 : Int) = 0 := h
    omega
  have hF : (firstE n F p q).1 = (hitsL n F p q)[0] := by
    unfold firstE
    rw [he, hE, show (decide ((0 : Int) = 0) && decide (((hitsL n F p q).length : Int) = 0)) = false by rw [decide_eq_false (by omega : ¬ ((hitsL n F p q).length : Int) = 0)]; rfl]
    show (hitsL n F p q).getD 0 0 = _
    rw [List.getD_eq_getElem?_getD, List.getElem?_eq_getElem hl]
    rfl
  have hw : wrongE p q n F = 0 := by
    unfold hitsErr at he
    split at he
    · cases he
    · split at he
      · cases he
      · exact he
  obtain ⟨w1, w2, w3, w4⟩ := wrongE_ok hw
  obtain ⟨j, j1, j2, j3, j4⟩ := hit_pl hinc (p := p) (q := q) (List.getElem_mem hl)
  refine ⟨j, j1, by rw [hF, j3], ⟨w1, w2, w4⟩, j2, fun k hk hm => ?_⟩
  have hx : (F k).iD ∈ hitsL n F p q := sortL_mem.2 (by
    have : ∀ m, k < m → (F k).iD ∈ idsK F p q m := by
      intro m
      induction m with
      | zero => intro h; omega
      | succ m ih =>
        intro h
        by_cases e : k = m
        · subst e
          rw [idsK_yes (show metB F p q k = true from hm)]
          simp
        · have := ih (by omega)
          cases hb : metB F p q m with
          | true => rw [idsK_yes hb]; simp [this]
          | false => rw [idsK_nay hb]; exact this
    exact this n hk)
  obtain ⟨i, hi, hxi⟩ := List.getElem_of_mem hx
  obtain ⟨q1, q2⟩ := head_min hinc (p := p) (q := q) hi
  have pk : plK F p q n (F k).iD = (whereP (F k) p q).1 := plK_id hinc hk hm hk (Nat.le_refl n)
  rw [hxi, j4, pk] at q1 q2
  exact ⟨q1, fun e => by have := q2 e; omega⟩
end Go.Proofs.YtjdohgcolhpegaaGreatDoor
namespace Go.Proofs.YtjdohgcolhpegaaGreatDoor
open Go.RowKit

section
variable {α : Type} {f : Nat → α} {g : Nat → Bool}
theorem filtM_get {d : α} {n j : Nat} (h : j < (filtM f g n).length) : ∃ i, i < n ∧ (filtM f g n).getD j d = f i ∧ g i = true := by
  rw [List.getD_eq_getElem?_getD, List.getElem?_eq_getElem h, Option.getD_some]
  obtain ⟨i, h1, h2, h3⟩ := (filtM_mem (x := (filtM f g n)[j]) n).1 (List.getElem_mem h)
  exact ⟨i, h1, h2, h3⟩
theorem filtM_idx {d : α} {n i : Nat} (h : i < n) (hg : g i = true) : ∃ j, j < (filtM f g n).length ∧ (filtM f g n).getD j d = f i := by
  obtain ⟨j, hj, e⟩ := List.getElem_of_mem ((filtM_mem (f := f) (g := g) (x := f i) n).2 ⟨i, h, rfl, hg⟩)
  exact ⟨j, hj, by rw [List.getD_eq_getElem?_getD, List.getElem?_eq_getElem hj, Option.getD_some]; exact e⟩
theorem filtM_pw {R : α → α → Prop} {n : Nat} (h : ∀ i j, i < j → j < n → g i = true → g j = true → R (f i) (f j)) : ∀ {k : Nat}, k ≤ n → List.Pairwise R (filtM f g k)
  | 0, _ => List.Pairwise.nil
  | k + 1, hk => by
    have ih := filtM_pw h (k := k) (by omega)
    simp only [filtM]
    split
    · rename_i hg
      refine List.pairwise_append.2 ⟨ih, by simp, fun x hx y hy => ?_⟩
      obtain ⟨i, h1, rfl, h3⟩ := (filtM_mem k).1 hx
      obtain rfl : y = f k := by simpa using hy
      exact h i k h1 (by omega) h3 hg
    · exact ih
theorem filtM_inc {d : α} {key : α → Int} {n : Nat} (h : ∀ i j, i < j → j < n → g i = true → g j = true → key (f i) < key (f j)) {a b : Nat} (hab : a < b) (hb : b < (filtM f g n).length) : key ((filtM f g n).getD a d) < key ((filtM f g n).getD b d) := by
  have := List.pairwise_iff_getElem.1 (filtM_pw (R := fun x y => key x < key y) h (Nat.le_refl n)) a b (by omega) hb hab
  rw [List.getD_eq_getElem?_getD, List.getElem?_eq_getElem (by omega), List.getD_eq_getElem?_getD, List.getElem?_eq_getElem hb]
  exact this
end
theorem bodyV_id {e : Ent} : (bodyV e).iD = e.iD := by unfold bodyV; cases fixB' e <;> rfl
theorem body_yes {e : Ent} (h : (bodyF e).2 = true) : (bodyF e).1 = bodyV e ∧ (cmpF e.l 1).2 = true ∧ (cmpF e.l 3).2 = true := by
  unfold bodyF at *
  cases hc : (cmpF e.l 1).2 && (cmpF e.l 3).2 with
  | false => rw [hc] at h; cases h
  | true =>
    rw [Bool.and_eq_true] at hc
    exact ⟨rfl, hc.1, hc.2⟩
theorem body_id {e : Ent} (h : (bodyF e).2 = true) : (bodyF e).1.iD = e.iD := by rw [(body_yes h).1]; exact bodyV_id
theorem ok_of' {b : Body} (h1 : 0 ≤ b.iD ∧ b.iD ≤ 65536) (h2 : -1048576 ≤ b.posX ∧ b.posX ≤ 1048576 ∧ -1048576 ≤ b.posY ∧ b.posY ≤ 1048576) (h3 : -4096 ≤ b.velX ∧ b.velX ≤ 4096 ∧ -4096 ≤ b.velY ∧ b.velY ≤ 4096) (h4 : 1 ≤ b.w ∧ b.w ≤ 16384 ∧ 1 ≤ b.h ∧ b.h ≤ 16384)
    (h5 : b.round = true → b.w = b.h) (h6 : b.fixed = true → b.velX = 0 ∧ b.velY = 0) : b.ok = true := by
  have e1 : okI 0 65536 b.iD = true := by unfold okI; simp; omega
  have e2 : okI2 (-1048576) 1048576 b.posX b.posY = true := by unfold okI2 okI; simp; omega
  have e3 : okI2 (-4096) 4096 b.velX b.velY = true := by unfold okI2 okI; simp; omega
  have e4 : okI2 1 16384 b.w b.h = true := by unfold okI2 okI; simp; omega
  have eb : b.bad1 = false := by unfold Body.bad1; rw [e1, e2, e3, e4]; rfl
  unfold Body.ok
  rw [eb]
  cases hr : b.round <;> cases hf : b.fixed <;> simp [*]
theorem body_ok {e : Ent} (hr : e.Right) (h : (bodyF e).2 = true) : (bodyF e).1.ok = true := by
  obtain ⟨e1, c1, c3⟩ := body_yes h
  rw [e1]
  obtain ⟨i1, p1, p2, p3⟩ := cmpF_hit c1
  obtain ⟨i3, r1, r2, r3⟩ := cmpF_hit c3
  have f1 := (hr.fits i1 p1).2.2.1 p3
  have f3 := (hr.fits i3 r1).2.2.2.2.1 r3
  have f3' := (hr.fits i3 r1).2.2.2.2.2.2.2.2.2.2.2.2.1 r3
  have lo := hr.lo
  have hi := hr.hi
  unfold bodyV
  cases hf : fixB' e with
  | true =>
    refine ok_of' ⟨by show 0 ≤ e.iD; omega, hi⟩ ?_ (by decide : (-4096 : Int) ≤ 0 ∧ (0 : Int) ≤ 4096 ∧ (-4096 : Int) ≤ 0 ∧ (0 : Int) ≤ 4096) ?_ ?_ (fun _ => ⟨rfl, rfl⟩)
    · show -1048576 ≤ (cmpF e.l 1).1.v0 ∧ (cmpF e.l 1).1.v0 ≤ 1048576 ∧ -1048576 ≤ (cmpF e.l 1).1.v1 ∧ (cmpF e.l 1).1.v1 ≤ 1048576
      rw [p2]; omega
    · show 1 ≤ (cmpF e.l 3).1.v0 ∧ (cmpF e.l 3).1.v0 ≤ 16384 ∧ 1 ≤ (cmpF e.l 3).1.v1 ∧ (cmpF e.l 3).1.v1 ≤ 16384
      rw [r2]; omega
    · intro hd
      have hd : (cmpF e.l 3).1.v2 = 1 := of_decide_eq_true hd
      show (cmpF e.l 3).1.v0 = (cmpF e.l 3).1.v1
      rw [r2] at hd ⊢
      omega
  | false =>
    have c2 : (cmpF e.l 2).2 = true := by
      unfold fixB' at hf
      simp only [Bool.or_eq_false_iff, Bool.not_eq_false'] at hf
      exact hf.2
    obtain ⟨i2, q1, q2, q3⟩ := cmpF_hit c2
    have f2 := (hr.fits i2 q1).2.2.2.1 q3
    refine ok_of' ⟨by show 0 ≤ e.iD; omega, hi⟩ ?_ ?_ ?_ ?_ (fun hc => by cases hc)
    · show -1048576 ≤ (cmpF e.l 1).1.v0 ∧ (cmpF e.l 1).1.v0 ≤ 1048576 ∧ -1048576 ≤ (cmpF e.l 1).1.v1 ∧ (cmpF e.l 1).1.v1 ≤ 1048576
      rw [p2]; omega
    · show -4096 ≤ (cmpF e.l 2).1.v0 ∧ (cmpF e.l 2).1.v0 ≤ 4096 ∧ -4096 ≤ (cmpF e.l 2).1.v1 ∧ (cmpF e.l 2).1.v1 ≤ 4096
      rw [q2]; omega
    · show 1 ≤ (cmpF e.l 3).1.v0 ∧ (cmpF e.l 3).1.v0 ≤ 16384 ∧ 1 ≤ (cmpF e.l 3).1.v1 ∧ (cmpF e.l 3).1.v1 ≤ 16384
      rw [r2]; omega
    · intro hd
      have hd : (cmpF e.l 3).1.v2 = 1 := of_decide_eq_true hd
      show (cmpF e.l 3).1.v0 = (cmpF e.l 3).1.v1
      rw [r2] at hd ⊢
      omega
theorem find_of {w : Wor} (hv : w.Valid) {a : Nat} (ha : a < w.l.n) : findE w (w.l.e a).iD = (a, true) := by
  have hl : lowB (fun i => (w.l.e i).iD) w.l.n (w.l.e a).iD = a := lowB_eq (by omega) (fun j hj => hv.inc j a hj ha) (fun j h1 h2 => by
    rcases Nat.eq_or_lt_of_le h1 with rfl | h1
    · exact Int.le_refl _
    · exact Int.le_of_lt (hv.inc a j h1 h2))
  have hh : hitB (fun i => (w.l.e i).iD) w.l.n (w.l.e a).iD = true := hitB_iff.2 (by rw [hl]; exact ⟨ha, rfl⟩)
  unfold findE
  rw [Wor.valid_iff.2 hv, hl, hh]
/-- What is known of the bodies of a valid world. -/
structure Bods (w : Wor) (L : List Body) : Prop where
  len : L.length ≤ w.l.n
  of : ∀ k, k < L.length → ∃ a, a < w.l.n ∧ bodG L k = (bodyF (w.l.e a)).1 ∧ (bodyF (w.l.e a)).2 = true
  inc : ∀ i j, i < j → j < L.length → (bodG L i).iD < (bodG L j).iD
theorem bods_of {w : Wor} (hv : w.Valid) : Bods w (bodiesL w.l w.l.n) where
  len := filtM_len w.l.n
  of := fun k hk => filtM_get hk
  inc := fun i j h1 h2 => filtM_inc (key := Body.iD) (fun a b q1 q2 q3 q4 => by rw [body_id q3, body_id q4]; exact hv.inc a b q1 q2) h1 h2
theorem Bods.oth {w : Wor} {L : List Body} (h : Bods w L) (f : Fam) : Bods w (othL L f L.length) where
  len := Nat.le_trans (filtM_len L.length) h.len
  of := fun k hk => by
    obtain ⟨i, h1, h2, h3⟩ := filtM_get (d := Body.no) hk
    obtain ⟨a, a1, a2, a3⟩ := h.of i h1
    exact ⟨a, a1, h2.trans a2, a3⟩
  inc := fun i j h1 h2 => filtM_inc (key := Body.iD) (fun a b q1 q2 _ _ => h.inc a b q1 q2) h1 h2
theorem Bods.ok {w : Wor} {L : List Body} (hv : w.Valid) (h : Bods w L) {k : Nat} (hk : k < L.length) : (bodG L k).ok = true := by
  obtain ⟨a, a1, a2, a3⟩ := h.of k hk
  rw [a2]
  exact body_ok (hv.right a a1) a3
theorem Bods.found {w : Wor} {L : List Body} (hv : w.Valid) (h : Bods w L) {k : Nat} (hk : k < L.length) : (findE w (bodG L k).iD).2 = true ∧ 1 ≤ (bodG L k).iD := by
  obtain ⟨a, a1, a2, a3⟩ := h.of k hk
  rw [a2, body_id a3, find_of hv a1]
  exact ⟨rfl, (hv.right a a1).lo⟩
theorem sees_found {w : Wor} {c id : Int} (ho : opB w c = false) (h : (findE w id).2 = true) : (seesE w c id).2 = 0 := by
  unfold seesE
  rw [ho, h]
theorem before_met {a b : Body} {p q : Vec} (ha : a.ok = true) (hb : b.ok = true) (hs : segOk p q) (h1 : (whereP a p q).2 = true) (h2 : (whereP b p q).2 = true) : beforeE a b p q = (ordP (whereP a p q).1 (whereP b p q).1, 0) := by
  have hw : wrongE p q 2 (twoB a b) = 0 := wrongE_of (n := 2) (F := twoB a b) hs.1 hs.2.1 (fun i hi => by
    match i, hi with
    | 0, _ => exact ha
    | 1, _ => exact hb) hs.2.2
  unfold beforeE
  rw [hw, h1, h2]
  rfl
/-- What Blind tells, if it has no error. -/
structure BlindOk (w : Wor) (sh : Int) (i : Df.Input) (L : List Body) : Prop where
  op : opB w i.client = false
  pos : (getE w sh 1).2 = true
  aim : Df.beyond ⟨i.aimX, i.aimY⟩ 8192 = false
  some : ¬ (blindE w sh i).1 = 0 → (seesE w i.client (blindE w sh i).1).2 = 0 ∧ (seesE w i.client (blindE w sh i).1).1 = false ∧ inF (blindOwn w i) (blindE w sh i).1 = false ∧ ∃ j, j < L.length ∧ (bodG L j).iD = (blindE w sh i).1 ∧ meetsB (bodG L j) (blindFrom w sh) (blindTo w sh i) = true ∧
    ∀ k, k < L.length → inF (blindOwn w i) (bodG L k).iD = false → meetsB (bodG L k) (blindFrom w sh) (blindTo w sh i) = true → (beforeE (bodG L j) (bodG L k) (blindFrom w sh) (blindTo w sh i)).2 = 0 ∧ (beforeE (bodG L j) (bodG L k) (blindFrom w sh) (blindTo w sh i)).1 ≤ 0 ∧
      ((beforeE (bodG L j) (bodG L k) (blindFrom w sh) (blindTo w sh i)).1 = 0 → (blindE w sh i).1 ≤ (bodG L k).iD)
  none : (blindE w sh i).1 = 0 → (∀ k, k < L.length → inF (blindOwn w i) (bodG L k).iD = false → meetsB (bodG L k) (blindFrom w sh) (blindTo w sh i) = false) ∨
    ∃ j, j < L.length ∧ inF (blindOwn w i) (bodG L j).iD = false ∧ meetsB (bodG L j) (blindFrom w sh) (blindTo w sh i) = true ∧ (seesE w i.client (bodG L j).iD).1 = true
theorem blind_ok {w : Wor} {sh : Int} {i : Df.Input} (hv : w.Valid) (hn : w.l.n ≤ 12) (h : (blindE w sh i).2 = 0) : BlindOk w sh i (bodiesL w.l w.l.n) := by
  have B := bods_of hv
  have O := B.oth (blindOwn w i)
  have hbb : blindBad w i = false := by
    cases c : blindBad w i with
    | false => rfl
    | true => unfold blindE at h; rw [c] at h; exact absurd (show (2 : Int) = 0 from h) (by decide)
  have hno : blindNone w sh i = false := by
    cases c : blindNone w sh i with
    | false => rfl
    | true => unfold blindE at h; rw [hbb, c] at h; exact absurd (show (6 : Int) = 0 from h) (by decide)
  have hb2 := hbb
  unfold blindBad at hb2
  simp only [Bool.or_eq_false_iff] at hb2
  have hg2 := hno
  unfold blindNone at hg2
  simp only [Bool.or_eq_false_iff, Bool.not_eq_false'] at hg2
  have oth : ∀ k, k < (bodiesL w.l w.l.n).length → inF (blindOwn w i) (bodG (bodiesL w.l w.l.n) k).iD = false → ∃ j, j < (blindL w i).length ∧ bodG (blindL w i) j = bodG (bodiesL w.l w.l.n) k := fun k hk hf =>
    filtM_idx (d := Body.no) (f := fun i => bodG (bodiesL w.l w.l.n) i) (g := fun k => !inF (blindOwn w i) (bodG (bodiesL w.l w.l.n) k).iD) hk (by show (!inF _ _) = true; rw [hf]; rfl)
  have hlen : (blindL w i).length ≤ 12 := Nat.le_trans O.len hn
  by_cases c : (blindHit w sh i).2 = 0
  · obtain ⟨j, j1, j2, j3, j4, j5⟩ := first_some (n := (blindL w i).length) (F := bodG (blindL w i)) (p := blindFrom w sh) (q := blindTo w sh i) hlen O.inc c
    obtain ⟨m, m1, m2, m3⟩ := filtM_get (d := Body.no) (f := fun i => bodG (bodiesL w.l w.l.n) i) (g := fun k => !inF (blindOwn w i) (bodG (bodiesL w.l w.l.n) k).iD) (n := (bodiesL w.l w.l.n).length) j1
    have m2 : bodG (blindL w i) j = bodG (bodiesL w.l w.l.n) m := m2
    have m3 : inF (blindOwn w i) (bodG (bodiesL w.l w.l.n) m).iD = false := by
      have m3 : (!inF (blindOwn w i) (bodG (bodiesL w.l w.l.n) m).iD) = true := m3
      simpa using m3
    have j2 : (bodG (blindL w i) j).iD = (blindHit w sh i).1 := j2
    rw [m2] at j2 j4 j5
    have okm := B.ok hv m1
    have mm : meetsB (bodG (bodiesL w.l w.l.n) m) (blindFrom w sh) (blindTo w sh i) = true := (meets_ok okm).2 ⟨j3, j4⟩
    have fm := B.found hv m1
    have s0 := sees_found hb2.1 fm.1
    by_cases cs : (seesE w i.client (bodG (bodiesL w.l w.l.n) m).iD).1 = true
    · have e : blindE w sh i = (0, 0) := by
        unfold blindE
        rw [hbb, hno, decide_eq_false (fun x => x c), ← j2, s0, cs]
        rfl
      refine ⟨hb2.1, hg2.1, hb2.2, fun x => absurd (by rw [e]) x, fun _ => .inr ⟨m, m1, m3, mm, cs⟩⟩
    · have cs : (seesE w i.client (bodG (bodiesL w.l w.l.n) m).iD).1 = false := by simpa using cs
      have e : blindE w sh i = ((bodG (bodiesL w.l w.l.n) m).iD, 0) := by
        unfold blindE
        rw [hbb, hno, decide_eq_false (fun x => x c), ← j2, s0, cs]
        rfl
      refine ⟨hb2.1, hg2.1, hb2.2, fun _ => ?_, fun x => ?_⟩
      · rw [e]
        refine ⟨s0, cs, m3, m, m1, rfl, mm, fun k hk hf hm => ?_⟩
        obtain ⟨j', q1, q2⟩ := oth k hk hf
        have okk := B.ok hv hk
        have hw := ((meets_ok okk).1 hm).2
        have q3 := j5 j' q1 (by rw [q2]; exact hw)
        rw [q2] at q3
        rw [before_met okm okk j3 j4 hw]
        exact ⟨rfl, q3.1, q3.2⟩
      · rw [e] at x
        have := fm.2
        have x : (bodG (bodiesL w.l w.l.n) m).iD = 0 := x
        omega
  · have e : blindE w sh i = (0, 0) := by
      unfold blindE
      rw [hbb, hno, decide_eq_true c]
    refine ⟨hb2.1, hg2.1, hb2.2, fun x => absurd (by rw [e]) x, fun _ => .inl fun k hk hf => ?_⟩
    obtain ⟨j, q1, q2⟩ := oth k hk hf
    rw [← q2]
    exact first_none (n := (blindL w i).length) (F := bodG (blindL w i)) hlen (fun k hk => O.ok hv hk) O.inc c j q1
end Go.Proofs.YtjdohgcolhpegaaGreatDoor
