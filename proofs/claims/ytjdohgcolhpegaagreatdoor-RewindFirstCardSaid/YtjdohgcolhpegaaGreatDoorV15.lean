/- RewindFirst: plain laws: what is shown is valid. -/
import Derived.Test.YtjdohgcolhpegaaGreatDoorN4
namespace Go.Proofs.YtjdohgcolhpegaaGreatDoor
open Go.RowKit

theorem lerp_rng {a b n d lo hi : Int} (h1 : lo ≤ a) (h2 : a ≤ hi) (h3 : lo ≤ b) (h4 : b ≤ hi) (hn : 0 ≤ n) (hd : n ≤ d) (h0 : 1 ≤ d) : lo ≤ Df.lerpI a b n d ∧ Df.lerpI a b n d ≤ hi := by
  unfold Df.lerpI
  by_cases h : a ≤ b
  · have q1 : 0 ≤ (b - a) * n := Int.mul_nonneg (by omega) hn
    have q2 : (b - a) * n ≤ (b - a) * d := Int.mul_le_mul_of_nonneg_left hd (by omega)
    have q3 : 0 ≤ (b - a) * n / d := Int.ediv_nonneg q1 (by omega)
    have q4 : (b - a) * n / d ≤ b - a := Int.ediv_le_of_le_mul (by omega) q2
    omega
  · have q1 : (b - a) * n ≤ 0 := Int.mul_nonpos_of_nonpos_of_nonneg (by omega) hn
    have q2 : (b - a) * d ≤ (b - a) * n := Int.mul_le_mul_of_nonpos_left (by omega) hd
    have q3 : b - a ≤ (b - a) * n / d := (Int.le_ediv_iff_mul_le (by omega)).2 q2
    have q4 : (b - a) * n / d ≤ 0 := Int.ediv_le_of_le_mul (by omega) (by omega)
    omega
theorem move_fits {c : Comp} {t : Vec} {n d : Int} (hf : c.Fits) (ht : -1048576 ≤ t.x ∧ t.x ≤ 1048576 ∧ -1048576 ≤ t.y ∧ t.y ≤ 1048576) (hn : 0 ≤ n) (hd : n ≤ d) (h0 : 1 ≤ d) : (moveC t n d c).Fits := by
  unfold moveC
  cases hk : decide (c.kind = 1) with
  | false => exact hf
  | true =>
    have hk := of_decide_eq_true hk
    obtain ⟨x1, x2, x3, x4, x5, x6, x7, x8⟩ := hf.2.2.1 hk
    have l0 := lerp_rng x1 x2 ht.1 ht.2.1 hn hd h0
    have l1 := lerp_rng x3 x4 ht.2.2.1 ht.2.2.2 hn hd h0
    unfold Comp.Fits Comp.F1 Comp.F2 Comp.F3 Comp.F4 Comp.F5 Comp.F6 Comp.F7 Comp.F8 Comp.F9 Comp.F10
    simp only [hk]
    omega
theorem mv_right {b : Wor} {n d : Int} {e : Ent} (hv : b.Valid) (he : e.Right) (hn : 0 ≤ n) (hd : n ≤ d) (h0 : 1 ≤ d) : (mvE b n d e).Right := by
  refine ⟨by rw [mv_id]; exact he.lo, by rw [mv_id]; exact he.hi, ?_, fun j hj => ?_⟩
  · rw [show (fun j => ((mvE b n d e).l.c j).kind) = fun j => (e.l.c j).kind from funext fun _ => mv_kind, mv_n]
    exact he.inc
  · rw [mv_n] at hj
    unfold mvE
    cases hf : (findE b e.iD).2 with
    | false => exact he.fits j hj
    | true =>
      simp only
      cases (pointF (b.l.e (findE b e.iD).1)).2 with
      | false => exact he.fits j hj
      | true => exact move_fits (he.fits j hj) (pointF_rng (hv.right _ (find_hit hf).2.1)) hn hd h0
theorem betw_valid {a b : Wor} {n d : Int} (h : betB a b n d = false) : (betwE a b n d).1.Valid ∧ (betwE a b n d).2 = 0 := by
  have hO := betB_no h
  unfold betwE
  rw [h]
  simp only
  cases decide (n = d) with
  | true => exact ⟨hO.vb, rfl⟩
  | false =>
    have hl := lerp_rng (lo := 0) (hi := 1073741824) hO.va.lo hO.va.hi hO.vb.lo hO.vb.hi hO.n0 hO.nd hO.d0
    refine ⟨⟨hl.1, hl.2, hO.va.len, ?_, fun i hi => mv_right hO.vb (hO.va.right i hi) hO.n0 hO.nd hO.d0⟩, rfl⟩
    rw [show (fun i => (Ens.e ⟨a.l.n, fun i => mvE b n d (a.l.e i)⟩ i).iD) = fun i => (a.l.e i).iD from funext fun _ => mv_id]
    exact hO.va.inc
theorem lbN_lt {key : Nat → Int} {q : Int} : ∀ {r k j : Nat}, k ≤ j → j < lbN key q k r → key j < q
  | 0, k, j, h1, h2 => by simp only [lbN] at h2; omega
  | r + 1, k, j, h1, h2 => by
    simp only [lbN] at h2
    cases hd : decide (key k < q) with
    | true =>
      rw [hd] at h2
      rcases Nat.eq_or_lt_of_le h1 with rfl | h1
      · exact of_decide_eq_true hd
      · exact lbN_lt h1 h2
    | false => rw [hd] at h2; simp only at h2; omega
theorem lbN_ge {key : Nat → Int} {q : Int} : ∀ {r k : Nat}, lbN key q k r < k + r → ¬ key (lbN key q k r) < q
  | 0, k, h => by simp only [lbN] at h; omega
  | r + 1, k, h => by
    simp only [lbN] at h ⊢
    cases hd : decide (key k < q) with
    | true => rw [hd] at h; exact lbN_ge (by simp only at h; omega)
    | false => exact of_decide_eq_false hd
/-- What is shown without an error is valid; there are two kinds of errors. -/
theorem shown_ok {h : Wrs} {t p : Int} (hs : shB h t p = false) : (shownE h t p).2 = 6 ∨ ((shownE h t p).2 = 0 ∧ (shownE h t p).1.Valid) := by
  obtain ⟨hh, t0, t1, p0, p1⟩ := shB_no hs
  unfold shownE
  rw [hs]
  simp only
  cases hx : hitH h (16 * t + p) with
  | true => exact .inr ⟨rfl, hh.v _ (hitB_iff.1 hx).1⟩
  | false =>
    simp only
    cases hd : decide ((lowH h (16 * t + p) : Int) = 0) || decide ((lowH h (16 * t + p) : Int) = h.n) with
    | true => exact .inl rfl
    | false =>
      simp only
      simp only [Bool.or_eq_false_iff, decide_eq_false_iff_not] at hd
      have hle : lowH h (16 * t + p) ≤ h.n := lowB_le
      have k1 : lowH h (16 * t + p) < h.n := by omega
      have et : ((lowH h (16 * t + p) : Int) - 1).toNat = lowH h (16 * t + p) - 1 := by omega
      rw [et]
      have k2 : lowH h (16 * t + p) - 1 < lowH h (16 * t + p) := by omega
      have a1 : 16 * (h.w (lowH h (16 * t + p) - 1)).tick < 16 * t + p := lbN_lt (key := fun i => 16 * (h.w i).tick) (Nat.zero_le _) k2
      have a2 : ¬ 16 * (h.w (lowH h (16 * t + p))).tick < 16 * t + p := lbN_ge (key := fun i => 16 * (h.w i).tick) (k := 0) (r := h.n) (by rw [Nat.zero_add]; exact k1)
      have v1 := hh.v _ k1
      have v2 := hh.v _ (Nat.lt_trans k2 k1)
      have h1 := v1.hi
      have h2 := v2.lo
      refine .inr (betw_valid ?_).symm
      unfold betB
      rw [Wor.valid_iff.2 v1, Wor.valid_iff.2 v2]
      simp only [Bool.or_eq_false_iff, decide_eq_false_iff_not]
      refine ⟨⟨⟨⟨⟨⟨rfl, rfl⟩, ?_⟩, ?_⟩, ?_⟩, ?_⟩, ?_⟩ <;> omega
end Go.Proofs.YtjdohgcolhpegaaGreatDoor
