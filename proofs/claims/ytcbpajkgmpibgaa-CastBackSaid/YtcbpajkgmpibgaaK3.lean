/- What a segment meets: by the points of the segment. -/
import Derived.Test.YtcbpajkgmpibgaaC9
namespace Go.Proofs.Ytcbpajkgmpibgaa
open Go.RowKit

/-- How far the point a / c of the segment lies within the circle. -/
def quad (b : Body) (p q : Vec) (a c : Int) : Int := segA p q * (a * a) - 2 * segH b p q * (a * c) + segC b p * (c * c)
/-- The point a / c of the segment lies in the body. -/
structure Inb (b : Body) (p q : Vec) (a c : Int) : Prop where
  s : Slabs b.low b.high p q a c
  r : b.round = true → quad b p q a c ≤ 0
theorem low_eq {b : Body} (h : b.ok = true) : b.low = ⟨b.posX - b.w, b.posY - b.h⟩ ∧ b.high = ⟨b.posX + b.w, b.posY + b.h⟩ := by
  unfold Body.low Body.high; rw [h]; exact ⟨rfl, rfl⟩
theorem quad_eq (b : Body) (p q : Vec) (a c : Int) : quad b p q a c = (c * (p.x - b.posX) + a * (q.x - p.x)) * (c * (p.x - b.posX) + a * (q.x - p.x)) + (c * (p.y - b.posY) + a * (q.y - p.y)) * (c * (p.y - b.posY) + a * (q.y - p.y)) - (c * b.w) * (c * b.w) := by
  unfold quad segA segH segC
  grind
theorem abs_sq {x y : Int} (h : 0 ≤ y) (k : x * x ≤ y * y) : -y ≤ x ∧ x ≤ y := by
  have h1 := of_sq h k
  have h2 := of_sq (x := -x) h (by rw [Int.neg_mul_neg]; exact k)
  omega
theorem disc_slabs {b : Body} {p q : Vec} {a c : Int} (hb : b.ok = true) (hr : b.round = true) (hc : 0 < c) (h : quad b p q a c ≤ 0) : Slabs b.low b.high p q a c := by
  obtain ⟨e1, e2⟩ := low_eq hb
  have hk := Body.Ok.of hb
  have hw := hk.r hr
  have hw1 := hk.w.1
  rw [quad_eq] at h
  have hcw : 0 ≤ c * b.w := Int.mul_nonneg (by omega) (by omega)
  have s1 := sq_nn (c * (p.x - b.posX) + a * (q.x - p.x))
  have s2 := sq_nn (c * (p.y - b.posY) + a * (q.y - p.y))
  have k1 := abs_sq hcw (x := c * (p.x - b.posX) + a * (q.x - p.x)) (by omega)
  have k2 := abs_sq hcw (x := c * (p.y - b.posY) + a * (q.y - p.y)) (by omega)
  rw [e1, e2]
  rw [Int.mul_sub] at k1 k2
  refine ⟨⟨?_, ?_⟩, ?_, ?_⟩ <;> simp only [Int.mul_sub, Int.mul_add] at * <;> (try rw [← hw]) <;> omega
/-- The circle's numbers. -/
theorem disc_id (A H C a c : Int) : (H * c - a * A) * (H * c - a * A) - c * c * (H * H - A * C) = A * (A * (a * a) - 2 * H * (a * c) + C * (c * c)) := by grind
theorem disc_pos {A H C a c : Int} (hc : 0 < c) (ha : 0 ≤ a) (hA : 0 ≤ A) (hA0 : A = 0 → H = 0) (hC : 0 < C) (h : A * (a * a) - 2 * H * (a * c) + C * (c * c) ≤ 0) : A ≠ 0 ∧ 0 ≤ H ∧ 0 ≤ H * H - A * C ∧ (H * c - a * A) * (H * c - a * A) ≤ c * c * (H * H - A * C) := by
  have hcc : 0 < c * c := Int.mul_pos hc hc
  have h1 : 0 < C * (c * c) := Int.mul_pos hC hcc
  have hid := disc_id A H C a c
  have h2 : A * (A * (a * a) - 2 * H * (a * c) + C * (c * c)) ≤ 0 := Int.mul_nonpos_of_nonneg_of_nonpos hA h
  have h3 : (H * c - a * A) * (H * c - a * A) ≤ c * c * (H * H - A * C) := by omega
  have haa : 0 ≤ A * (a * a) := Int.mul_nonneg hA (sq_nn a)
  have hac : 0 ≤ a * c := Int.mul_nonneg ha (by omega)
  refine ⟨fun e => ?_, ?_, ?_, h3⟩
  · rw [hA0 e, e] at h
    simp only [Int.zero_mul, Int.mul_zero, Int.sub_zero, Int.zero_add] at h
    omega
  · rcases Int.lt_or_le H 0 with hH | hH
    · have : 2 * H * (a * c) ≤ 0 := Int.mul_nonpos_of_nonpos_of_nonneg (by omega) hac
      omega
    · exact hH
  · rcases Int.lt_or_le (H * H - A * C) 0 with hS | hS
    · have : c * c * (H * H - A * C) < 0 := Int.mul_neg_of_pos_of_neg hcc hS
      have := sq_nn (H * c - a * A)
      omega
    · exact hS
theorem segA_nn (p q : Vec) : 0 ≤ segA p q := by unfold segA; have := sq_nn (q.x - p.x); have := sq_nn (q.y - p.y); omega
theorem segA_zero {b : Body} {p q : Vec} (h : segA p q = 0) : segH b p q = 0 := by
  unfold segA at h
  have h1 := sq_nn (q.x - p.x)
  have h2 := sq_nn (q.y - p.y)
  have e1 : q.x - p.x = 0 := by
    have : (q.x - p.x) * (q.x - p.x) = 0 := by omega
    rcases Int.mul_eq_zero.1 this with e | e <;> exact e
  have e2 : q.y - p.y = 0 := by
    have : (q.y - p.y) * (q.y - p.y) = 0 := by omega
    rcases Int.mul_eq_zero.1 this with e | e <;> exact e
  unfold segH
  rw [e1, e2]; simp
/-- A body that has a point of a segment is met, no later. -/
theorem met_of {b : Body} {p q : Vec} {a c : Int} (hb : b.ok = true) (hc : 0 < c) (ha : 0 ≤ a) (hac : a ≤ c) (h : Inb b p q a c) : (whereP b p q).2 = true ∧ (whereP b p q).1.le a c := by
  have he : (b.ent p q).2 = true := by
    cases e : (b.ent p q).2 with
    | true => rfl
    | false => exact absurd h.s (enter_no e hc ha hac)
  unfold whereP
  rw [he]
  cases hr : b.round with
  | false =>
    simp only [Bool.not_true, Bool.not_false, Bool.or_true, he, true_and]
    obtain ⟨r, -, -, -, k⟩ := enter_yes he
    exact (Plc.le_flat r.s).2 (k a c hc ha hac h.s)
  | true =>
    simp only [Bool.not_true, Bool.or_self]
    have hq := h.r hr
    unfold quad at hq
    split
    · rename_i h0
      exact ⟨rfl, .inl (by simp only; omega)⟩
    · rename_i h0
      have h0 : 0 < segC b p := by simpa using h0
      obtain ⟨k1, k2, k3, k4⟩ := disc_pos hc ha (segA_nn p q) segA_zero h0 hq
      have hap : apart b p q = false := by
        unfold apart segS
        rw [decide_eq_false k1, decide_eq_false (by omega), decide_eq_false (by omega)]
        rfl
      rw [hap]
      have hA : 0 < segA p q := by have := segA_nn p q; omega
      have hle : (⟨segH b p q, segS b p q, segA p q⟩ : Plc).le a c := .inr k4
      refine ⟨decide_eq_true ((ordP_le (w := ⟨segH b p q, segS b p q, segA p q⟩) k3).2 (Plc.le_mono hA hc (by decide) hle (by omega))), hle⟩
/-- What is met, has a point of the segment, up to each place behind its own. -/
theorem of_met {b : Body} {p q : Vec} (hb : b.ok = true) (h : (whereP b p q).2 = true) : (whereP b p q).1.le 1 1 ∧ ∀ a' c', 0 < c' → 0 ≤ a' → (whereP b p q).1.le a' c' → ∃ a c, 0 < c ∧ 0 ≤ a ∧ a * c' ≤ a' * c ∧ Inb b p q a c := by
  unfold whereP at *
  cases he : (b.ent p q).2 with
  | false =>
    rw [he] at h
    simp only [Bool.not_false, Bool.true_or, he] at h
    cases h
  | true =>
    rw [he] at h
    obtain ⟨r, e0, e1, e2, -⟩ := enter_yes he
    cases hr : b.round with
    | false =>
      simp only [Bool.not_true, Bool.not_false, Bool.or_true]
      refine ⟨(Plc.le_flat r.s).2 (by omega), fun a' c' hc' ha' hle => ⟨_, _, r.m, e0, ?_, ⟨e2, fun c => by rw [hr] at c; cases c⟩⟩⟩
      exact (Plc.le_flat r.s).1 hle
    | true =>
      rw [hr] at h
      simp only [Bool.not_true, Bool.or_self] at h ⊢
      have inb : ∀ a c, 0 < c → quad b p q a c ≤ 0 → Inb b p q a c := fun a c hc hq => ⟨disc_slabs hb hr hc hq, fun _ => hq⟩
      split
      · rename_i h0
        have h0 : segC b p ≤ 0 := of_decide_eq_true h0
        refine ⟨.inl (by decide), fun a' c' hc' ha' _ => ⟨0, 1, by decide, by decide, by omega, inb 0 1 (by decide) ?_⟩⟩
        unfold quad
        simp only [Int.mul_zero, Int.zero_mul, Int.mul_one]
        omega
      · rename_i h0
        rw [h0] at h
        simp only at h
        have h0 : 0 < segC b p := by simpa using h0
        cases hap : apart b p q with
        | true => rw [hap] at h; cases h
        | false =>
          rw [hap] at h
          simp only at h ⊢
          obtain ⟨k1, k2, k3⟩ := apart_of hap
          have hA : 0 < segA p q := by have := segA_nn p q; omega
          have h1 := (ordP_le (w := ⟨segH b p q, segS b p q, segA p q⟩) k3).1 (of_decide_eq_true h)
          refine ⟨h1, fun a' c' hc' ha' hle => ?_⟩
          rcases Int.le_total (segH b p q * c' - a' * segA p q) 0 with hn | hn
          · refine ⟨segH b p q, segA p q, hA, k2, by omega, inb _ _ hA ?_⟩
            have : quad b p q (segH b p q) (segA p q) = segA p q * (-(segS b p q)) := by unfold quad segS; grind
            rw [this]
            exact Int.mul_nonpos_of_nonneg_of_nonpos (by omega) (by omega)
          · refine ⟨a', c', hc', ha', Int.le_refl _, inb _ _ hc' ?_⟩
            have hle : (segH b p q * c' - a' * segA p q) * (segH b p q * c' - a' * segA p q) ≤ c' * c' * segS b p q := by
              rcases hle with hle | hle
              · have e : segH b p q * c' - a' * segA p q = 0 := Int.le_antisymm hle hn
                rw [e]
                have := Int.mul_nonneg (sq_nn c') k3
                omega
              · exact hle
            have hid := disc_id (segA p q) (segH b p q) (segC b p) a' c'
            rcases Int.lt_or_le 0 (quad b p q a' c') with hpos | hpos
            · have : 0 < segA p q * quad b p q a' c' := Int.mul_pos hA hpos
              unfold quad at this
              unfold segS at hle
              omega
            · exact hpos
end Go.Proofs.Ytcbpajkgmpibgaa
