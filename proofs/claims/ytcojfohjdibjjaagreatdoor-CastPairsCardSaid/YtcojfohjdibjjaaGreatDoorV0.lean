/- What a segment meets: by the points of the segment. Parts of segments; points. -/
import Derived.Test.YtcojfohjdibjjaaGreatDoorQ3
import Derived.Test.YtcojfohjdibjjaaGreatDoorQ8
namespace Go.Proofs.YtcojfohjdibjjaaGreatDoor
open Go.RowKit

/-- How far the point a / c of the segment lies within the circle. -/
def quad (b : Body) (p q : Vec) (a c : Int) : Int := segA p q * (a * a) - 2 * segH b p q * (a * c) + segC b p * (c * c)
/-- The point a / c of the segment lies in the body. -/
structure Inb (b : Body) (p q : Vec) (a c : Int) : Prop where
  s : Slabs b.low b.high p q a c
  r : b.round = true → quad b p q a c ≤ 0
theorem low_eq {b : Body} (h : b.ok = true) : b.low = ⟨b.posX - b.w, b.posY - b.h⟩ ∧ b.high = ⟨b.posX + b.w, b.posY + b.h⟩ := by
  unfold Body.low Body.high; rw [h]; exact ⟨rfl, rfl⟩
theorem quad_eq (b : Body) (p q : Vec) (a c : Int) : quad b p q a c = (c * (p.x - b.posX) + a * (q.x - p.x)) * (c * (p.x - b.posX) + a * (q.x - p.x)) + (c * (p.y - b.posY) + a * (q.y - p.y)) * (c * (p.y - b.posY) + a * (q.y - p.y)) - (c * b.w) * (c * b.w) := by
  unfold quad segA segH segC
  grind
theorem abs_sq {x y : Int} (h : 0 ≤ y) (k : x * x ≤ y * y) : -y ≤ x ∧ x ≤ y := by
  have h1 := of_sq h k
  have h2 := of_sq (x := -x) h (by rw [Int.neg_mul_neg]; exact k)
  omega
theorem disc_slabs {b : Body} {p q : Vec} {a c : Int} (hb : b.ok = true) (hr : b.round = true) (hc : 0 < c) (h : quad b p q a c ≤ 0) : Slabs b.low b.high p q a c := by
  obtain ⟨e1, e2⟩ := low_eq hb
  have hk := Body.Ok.of hb
  have hw := hk.r hr
  have hw1 := hk.w.1
  rw [quad_eq] at h
  have hcw : 0 ≤ c * b.w := Int.mul_nonneg (by omega) (by omega)
  have s1 := sq_nn (c * (p.x - b.posX) + a * (q.x - p.x))
  have s2 := sq_nn (c * (p.y - b.posY) + a * (q.y - p.y))
  have k1 := abs_sq hcw (x := c * (p.x - b.posX) + a * (q.x - p.x)) (by omega)
  have k2 := abs_sq hcw (x := c * (p.y - b.posY) + a * (q.y - p.y)) (by omega)
  rw [e1, e2]
  rw [Int.mul_sub] at k1 k2
  refine ⟨⟨?_, ?_⟩, ?_, ?_⟩ <;> simp only [Int.mul_sub, Int.mul_add] at * <;> (try rw [← hw]) <;> omega
/-- The circle's numbers. -/
theorem disc_id (A H C a c : Int) : (H * c - a * A) * (H * c - a * A) - c * c * (H * H - A * C) = A * (A * (a * a) - 2 * H * (a * c) + C * (c * c)) := by grind
theorem disc_pos {A H C a c : Int} (hc : 0 < c) (ha : 0 ≤ a) (hA : 0 ≤ A) (hA0 : A = 0 → H = 0) (hC : 0 < C) (h : A * (a * a) - 2 * H * (a * c) + C * (c * c) ≤ 0) : A ≠ 0 ∧ 0 ≤ H ∧ 0 ≤ H * H - A * C ∧ (H * c - a * A) * (H * c - a * A) ≤ c * c * (H * H - A * C) := by
  have hcc : 0 < c * c := Int.mul_pos hc hc
  have h1 : 0 < C * (c * c) := Int.mul_pos hC hcc
  have hid := disc_id A H C a c
  have h2 : A * (A * (a * a) - 2 * H * (a * c) + C * (c * c)) ≤ 0 := Int.mul_nonpos_of_nonneg_of_nonpos hA h
  have h3 : (H * c - a * A) * (H * c - a * A) ≤ c * c * (H * H - A * C) := by omega
  have haa : 0 ≤ A * (a * a) := Int.mul_nonneg hA (sq_nn a)
  have hac : 0 ≤ a * c := Int.mul_nonneg ha (by omega)
  refine ⟨fun e => ?_, ?_, ?_, h3⟩
  · rw [hA0 e, e] at h
    simp only [Int.zero_mul, Int.mul_zero, Int.sub_zero, Int.zero_add] at h
    omega
  · rcases Int.lt_or_le H 0 with hH | hH
    · have : 2 * H * (a * c) ≤ 0 := Int.mul_nonpos_of_nonpos_of_nonneg (by omega) hac
      omega
    · exact hH
  · rcases Int.lt_or_le (H * H - A * C) 0 with hS | hS
    · have : c * c * (H * H - A * C) < 0 := Int.mul_neg_of_pos_of_neg hcc hS
      have := sq_nn (H * c - a * A)
      omega
    · exact hS
theorem segA_nn (p q : Vec) : 0 ≤ segA p q := by unfold segA; have := sq_nn (q.x - p.x); have := sq_nn (q.y - p.y); omega
theorem segA_zero {b : Body} {p q : Vec} (h : segA p q = 0) : segH b p q = 0 := by
  unfold segA at h
  have h1 := sq_nn (q.x - p.x)
  have h2 := sq_nn (q.y - p.y)
  have e1 : q.x - p.x = 0 := by
    have : (q.x - p.x) * (q.x - p.x) = 0 := by omega
    rcases Int.mul_eq_zero.1 this with e | e <;> exact e
  have e2 : q.y - p.y = 0 := by
    have : (q.y - p.y) * (q.y - p.y) = 0 := by omega
    rcases Int.mul_eq_zero.1 this with e | e <;> exact e
  unfold segH
  rw [e1, e2]; simp
/-- A body that has a point of a segment is met, no later. -/
theorem met_of {b : Body} {p q : Vec} {a c : Int} (hb : b.ok = true) (hc : 0 < c) (ha : 0 ≤ a) (hac : a ≤ c) (h : Inb b p q a c) : (whereP b p q).2 = true ∧ (whereP b p q).1.le a c := by
  have he : (b.ent p q).2 = true := by
    cases e : (b.ent p q).2 with
    | true => rfl
    | false => exact absurd h.s (enter_no e hc ha hac)
  unfold whereP
  rw [he]
  cases hr : b.round with
  | false =>
    simp only [Bool.not_true, Bool.not_false, Bool.or_true, he, true_and]
    obtain ⟨r, -, -, -, k⟩ := enter_yes he
    exact (Plc.le_flat r.s).2 (k a c hc ha hac h.s)
  | true =>
    simp only [Bool.not_true, Bool.or_self]
    have hq := h.r hr
    unfold quad at hq
    split
    · rename_i h0
      exact ⟨rfl, .inl (by simp only; omega)⟩
    · rename_i h0
      have h0 : 0 < segC b p := by simpa using h0
      obtain ⟨k1, k2, k3, k4⟩ := disc_pos hc ha (segA_nn p q) segA_zero h0 hq
      have hap : apart b p q = false := by
        unfold apart segS
        rw [decide_eq_false k1, decide_eq_false (by omega), decide_eq_false (by omega)]
        rfl
      rw [hap]
      have hA : 0 < segA p q := by have := segA_nn p q; omega
      have hle : (⟨segH b p q, segS b p q, segA p q⟩ : Plc).le a c := .inr k4
      refine ⟨decide_eq_true ((ordP_le (w := ⟨segH b p q, segS b p q, segA p q⟩) k3).2 (Plc.le_mono hA hc (by decide) hle (by omega))), hle⟩
/-- What is met, has a point of the segment, up to each place behind its own. -/
theorem of_met {b : Body} {p q : Vec} (hb : b.ok = true) (h : (whereP b p q).2 = true) : (whereP b p q).1.le 1 1 ∧ ∀ a' c', 0 < c' → 0 ≤ a' → (whereP b p q).1.le a' c' → ∃ a c, 0 < c ∧ 0 ≤ a ∧ a * c' ≤ a' * c ∧ Inb b p q a c := by
  unfold whereP at *
  cases he : (b.ent p q).2 with
  | false =>
    rw [he] at h
    simp only [Bool.not_false, Bool.true_or, he] at h
    cases h
  | true =>
    rw [he] at h
    obtain ⟨r, e0, e1, e2, -⟩ := enter_yes he
    cases hr : b.round with
    | false =>
      simp only [Bool.not_true, Bool.not_false, Bool.or_true]
      refine ⟨(Plc.le_flat r.s).2 (by omega), fun a' c' hc' ha' hle => ⟨_, _, r.m, e0, ?_, ⟨e2, fun c => by rw [hr] at c; cases c⟩⟩⟩
      exact (Plc.le_flat r.s).1 hle
    | true =>
      rw [hr] at h
      simp only [Bool.not_true, Bool.or_self] at h ⊢
      have inb : ∀ a c, 0 < c → quad b p q a c ≤ 0 → Inb b p q a c := fun a c hc hq => ⟨disc_slabs hb hr hc hq, fun _ => hq⟩
      split
      · rename_i h0
        have h0 : segC b p ≤ 0 := of_decide_eq_true h0
        refine ⟨.inl (by decide), fun a' c' hc' ha' _ => ⟨0, 1, by decide, by decide, by omega, inb 0 1 (by decide) ?_⟩⟩
        unfold quad
        simp only [Int.mul_zero, Int.zero_mul, Int.mul_one]
        omega
      · rename_i h0
        rw [h0] at h
        simp only at h
        have h0 : 0 < segC b p := by simpa using h0
        cases hap : apart b p q with
        | true => rw [hap] at h; cases h
        | false =>
          rw [hap] at h
          simp only at h ⊢
          obtain ⟨k1, k2, k3⟩ := apart_of hap
          have hA : 0 < segA p q := by have := segA_nn p q; omega
          have h1 := (ordP_le (w := ⟨segH b p q, segS b p q, segA p q⟩) k3).1 (of_decide_eq_true h)
          refine ⟨h1, fun a' c' hc' ha' hle => ?_⟩
          rcases Int.le_total (segH b p q * c' - a' * segA p q) 0 with hn | hn
          · refine ⟨segH b p q, segA p q, hA, k2, by omega, inb _ _ hA ?_⟩
            have : quad b p q (segH b p q) (segA p q) = segA p q * (-(segS b p q)) := by unfold quad segS; grind
            rw [this]
            exact Int.mul_nonpos_of_nonneg_of_nonpos (by omega) (by omega)
          · refine ⟨a', c', hc', ha', Int.le_refl _, inb _ _ hc' ?_⟩
            have hle : (segH b p q * c' - a' * segA p q) * (segH b p q * c' - a' * segA p q) ≤ c' * c' * segS b p q := by
              rcases hle with hle | hle
              · have e : segH b p q * c' - a' * segA p q = 0 := Int.le_antisymm hle hn
                rw [e]
                have := Int.mul_nonneg (sq_nn c') k3
                omega
              · exact hle
            have hid := disc_id (segA p q) (segH b p q) (segC b p) a' c'
            rcases Int.lt_or_le 0 (quad b p q a' c') with hpos | hpos
            · have : 0 < segA p q * quad b p q a' c' := Int.mul_pos hA hpos
              unfold quad at this
              unfold segS at hle
              omega
            · exact hpos
end Go.Proofs.YtcojfohjdibjjaaGreatDoor
namespace Go.Proofs.YtcojfohjdibjjaaGreatDoor
open Go.RowKit

/-- The point p + (a / c) v lies in the body. -/
def In1 (b : Body) (p v : Vec) (a c : Int) : Prop := Inb b p (goV p v 1) a c
theorem goV_x (p v : Vec) (n : Int) : (goV p v n).x - p.x = n * v.x := by unfold goV; simp only; omega
theorem goV_y (p v : Vec) (n : Int) : (goV p v n).y - p.y = n * v.y := by unfold goV; simp only; omega
theorem quad_go (b : Body) (p v : Vec) (n a c : Int) : quad b p (goV p v n) a c = quad b p (goV p v 1) (a * n) c := by
  unfold quad segA segH
  simp only [goV_x, goV_y]
  grind
theorem inb_go {b : Body} {p v : Vec} {n a c : Int} : Inb b p (goV p v n) a c ↔ In1 b p v (a * n) c := by
  have e1 : a * (n * v.x) = a * n * (1 * v.x) := by grind
  have e2 : a * (n * v.y) = a * n * (1 * v.y) := by grind
  constructor
  · rintro ⟨⟨⟨h1, h2⟩, h3, h4⟩, h5⟩
    rw [goV_x, e1] at h1 h2
    rw [goV_y, e2] at h3 h4
    refine ⟨⟨⟨?_, ?_⟩, ?_, ?_⟩, fun hr => ?_⟩
    · rw [goV_x]; exact h1
    · rw [goV_x]; exact h2
    · rw [goV_y]; exact h3
    · rw [goV_y]; exact h4
    · rw [← quad_go]; exact h5 hr
  · rintro ⟨⟨⟨h1, h2⟩, h3, h4⟩, h5⟩
    rw [goV_x] at h1 h2
    rw [goV_y] at h3 h4
    refine ⟨⟨⟨?_, ?_⟩, ?_, ?_⟩, fun hr => ?_⟩
    · rw [goV_x, e1]; exact h1
    · rw [goV_x, e1]; exact h2
    · rw [goV_y, e2]; exact h3
    · rw [goV_y, e2]; exact h4
    · rw [quad_go]; exact h5 hr
theorem in1_scale {b : Body} {p v : Vec} {a c k : Int} (hk : 0 < k) : In1 b p v (a * k) (c * k) ↔ In1 b p v a c := by
  have sl : ∀ fr way lo hi : Int, Slab fr way lo hi (a * k) (c * k) ↔ Slab fr way lo hi a c := fun fr way lo hi => by
    have e1 : c * k * fr + a * k * way = (c * fr + a * way) * k := by grind
    have e2 : c * k * lo = (c * lo) * k := by grind
    have e3 : c * k * hi = (c * hi) * k := by grind
    unfold Slab
    rw [e1, e2, e3]
    exact and_congr (Int.mul_le_mul_right hk) (Int.mul_le_mul_right hk)
  have qu : quad b p (goV p v 1) (a * k) (c * k) ≤ 0 ↔ quad b p (goV p v 1) a c ≤ 0 := by
    have e : quad b p (goV p v 1) (a * k) (c * k) = quad b p (goV p v 1) a c * (k * k) := by unfold quad; grind
    have hkk : 0 < k * k := Int.mul_pos hk hk
    rw [e]
    constructor
    · intro h
      rcases Int.lt_or_le 0 (quad b p (goV p v 1) a c) with hp | hp
      · have := Int.mul_pos hp hkk; omega
      · exact hp
    · intro h
      exact Int.mul_nonpos_of_nonpos_of_nonneg h (by omega)
  constructor
  · rintro ⟨⟨h1, h2⟩, h3⟩
    exact ⟨⟨(sl _ _ _ _).1 h1, (sl _ _ _ _).1 h2⟩, fun hr => qu.1 (h3 hr)⟩
  · rintro ⟨⟨h1, h2⟩, h3⟩
    exact ⟨⟨(sl _ _ _ _).2 h1, (sl _ _ _ _).2 h2⟩, fun hr => qu.2 (h3 hr)⟩
/-- A part of a segment meets what the segment meets in that part. -/
theorem part_meets {b : Body} {p v : Vec} {i n : Int} (hb : b.ok = true) (hn : 0 < n) (hi : 0 ≤ i) (hin : i ≤ n) : (whereP b p (goV p v i)).2 = true ↔ (whereP b p (goV p v n)).2 = true ∧ (whereP b p (goV p v n)).1.le i n := by
  constructor
  · intro h
    obtain ⟨h1, h2⟩ := of_met hb h
    obtain ⟨a, c, hc, ha, hac, hI⟩ := h2 1 1 (by decide) (by decide) h1
    have hI : Inb b p (goV p v n) (a * i) (c * n) := by
      rw [inb_go, in1_scale hn, ← inb_go]; exact hI
    have hcn : 0 < c * n := Int.mul_pos hc hn
    have hle : a * i ≤ c * n := Int.mul_le_mul (by omega) hin hi (by omega)
    obtain ⟨k1, k2⟩ := met_of hb hcn (Int.mul_nonneg ha hi) hle hI
    refine ⟨k1, Plc.le_mono (where_pos k1).1 hcn hn k2 ?_⟩
    have e1 : a * i * n = (i * n) * a := by grind
    have e2 : i * (c * n) = (i * n) * c := by grind
    rw [e1, e2]
    exact Int.mul_le_mul_of_nonneg_left (by omega) (Int.mul_nonneg hi (by omega))
  · rintro ⟨h, hle⟩
    obtain ⟨-, h2⟩ := of_met hb h
    obtain ⟨a, c, hc, ha, hac, hI⟩ := h2 i n hn hi hle
    rw [inb_go] at hI
    rcases Int.lt_or_le 0 i with h0 | h0
    · have hI' : Inb b p (goV p v i) (a * n) (c * i) := by rw [inb_go, in1_scale h0]; exact hI
      exact (met_of hb (Int.mul_pos hc h0) (Int.mul_nonneg ha (by omega)) (by rw [Int.mul_comm c i]; exact hac) hI').1
    · obtain rfl : i = 0 := by omega
      have han : a * n = 0 := by
        have := Int.mul_nonneg ha (Int.le_of_lt hn)
        omega
      have hI' : Inb b p (goV p v 0) 0 c := by rw [inb_go, Int.mul_zero, ← han]; exact hI
      exact (met_of hb hc (by decide) (by omega) hI').1
/-- A body has a point. -/
theorem has_iff {b : Body} {s : Vec} (hb : b.ok = true) : b.hasB s = true ↔ (b.low.x ≤ s.x ∧ s.x ≤ b.high.x) ∧ (b.low.y ≤ s.y ∧ s.y ≤ b.high.y) ∧ (b.round = true → (s.x - b.posX) * (s.x - b.posX) + (s.y - b.posY) * (s.y - b.posY) ≤ b.w * b.w) := by
  unfold Body.hasB
  rw [hb]
  simp only [Bool.not_true]
  have ok : ∀ lo hi x : Int, (!okI lo hi x) = false ↔ lo ≤ x ∧ x ≤ hi := fun lo hi x => by
    simp only [okI, Bool.not_eq_false', Bool.and_true, Bool.not_eq_true', Bool.or_eq_false_iff, decide_eq_false_iff_not]
    omega
  have nok : ∀ lo hi x : Int, (!okI lo hi x) = true → ¬ (lo ≤ x ∧ x ≤ hi) := fun lo hi x h c => by rw [(ok _ _ _).2 c] at h; cases h
  split
  · rename_i h1
    simp only [Bool.false_eq_true, false_iff]
    exact fun c => nok _ _ _ h1 c.1
  · rename_i h1
    split
    · rename_i h2
      simp only [Bool.false_eq_true, false_iff]
      exact fun c => nok _ _ _ h2 c.2.1
    · rename_i h2
      rw [Bool.or_eq_true, decide_eq_true_eq]
      constructor
      · intro h
        exact ⟨(ok _ _ _).1 h1, (ok _ _ _).1 h2, fun hr => by
          rcases h with h | h
          · rw [hr] at h; cases h
          · exact h⟩
      · intro ⟨_, _, h⟩
        cases hr : b.round with
        | false => exact .inl rfl
        | true => exact .inr (h hr)
theorem has_in1 {b : Body} {p v : Vec} {i : Int} (hb : b.ok = true) : b.hasB (goV p v i) = true ↔ In1 b p v i 1 := by
  rw [has_iff hb]
  have q1 : quad b p (goV p v 1) i 1 = ((goV p v i).x - b.posX) * ((goV p v i).x - b.posX) + ((goV p v i).y - b.posY) * ((goV p v i).y - b.posY) - b.w * b.w := by
    unfold quad segA segH segC goV
    simp only
    grind
  have x1 : (goV p v i).x = p.x + i * v.x := rfl
  have y1 : (goV p v i).y = p.y + i * v.y := rfl
  constructor
  · rintro ⟨⟨h1, h2⟩, ⟨h3, h4⟩, h5⟩
    refine ⟨⟨⟨?_, ?_⟩, ?_, ?_⟩, fun hr => ?_⟩
    · rw [goV_x]; rw [x1] at h1; simp only [Int.one_mul]; exact h1
    · rw [goV_x]; rw [x1] at h2; simp only [Int.one_mul]; exact h2
    · rw [goV_y]; rw [y1] at h3; simp only [Int.one_mul]; exact h3
    · rw [goV_y]; rw [y1] at h4; simp only [Int.one_mul]; exact h4
    · rw [q1]; have := h5 hr; omega
  · rintro ⟨⟨⟨h1, h2⟩, h3, h4⟩, h5⟩
    rw [goV_x] at h1 h2
    rw [goV_y] at h3 h4
    simp only [Int.one_mul] at h1 h2 h3 h4
    refine ⟨⟨?_, ?_⟩, ⟨?_, ?_⟩, fun hr => ?_⟩
    · rw [x1]; exact h1
    · rw [x1]; exact h2
    · rw [y1]; exact h3
    · rw [y1]; exact h4
    · have := h5 hr; rw [q1] at this; omega
/-- A body that has a point of a segment is met. -/
theorem has_meets {b : Body} {p v : Vec} {i n : Int} (hb : b.ok = true) (hn : 0 < n) (hi : 0 ≤ i) (hin : i ≤ n) (h : b.hasB (goV p v i) = true) : (whereP b p (goV p v n)).2 = true ∧ (whereP b p (goV p v n)).1.le i n := by
  rw [has_in1 hb] at h
  have hI : Inb b p (goV p v n) i n := by
    rw [inb_go]
    have := (in1_scale (b := b) (p := p) (v := v) (a := i) (c := 1) hn).2 h
    rwa [Int.one_mul] at this
  exact met_of hb hn hi hin hI
theorem goV_0 (p v : Vec) : goV p v 0 = p := by unfold goV; simp
/-- A segment of one point meets what has it. -/
theorem has_point {b : Body} {s : Vec} (hb : b.ok = true) : b.hasB s = (whereP b s s).2 := by
  rw [Bool.eq_iff_iff]
  have e := goV_0 s ⟨0, 0⟩
  have hg : ∀ n, goV s ⟨0, 0⟩ n = s := fun n => by unfold goV; simp
  constructor
  · intro h
    have := has_meets (p := s) (v := ⟨0, 0⟩) (i := 0) (n := 1) hb (by decide) (by decide) (by decide) (by rw [e]; exact h)
    rw [hg] at this
    exact this.1
  · intro h
    obtain ⟨h1, h2⟩ := of_met hb h
    obtain ⟨a, c, hc, ha, hac, hI⟩ := h2 1 1 (by decide) (by decide) h1
    have hI : In1 b s ⟨0, 0⟩ a c := by
      have := (inb_go (b := b) (p := s) (v := ⟨0, 0⟩) (n := 1) (a := a) (c := c)).1 (by rw [hg]; exact hI)
      rwa [Int.mul_one] at this
    have hI0 : In1 b s ⟨0, 0⟩ (0 * c) (1 * c) := by
      obtain ⟨⟨⟨k1, k2⟩, k3, k4⟩, k5⟩ := hI
      rw [goV_x] at k1 k2
      rw [goV_y] at k3 k4
      simp only [Int.mul_zero, Int.add_zero] at k1 k2 k3 k4
      refine ⟨⟨⟨?_, ?_⟩, ?_, ?_⟩, fun hr => ?_⟩
      · rw [goV_x]; simp only [Int.mul_zero, Int.add_zero, Int.one_mul]; exact k1
      · rw [goV_x]; simp only [Int.mul_zero, Int.add_zero, Int.one_mul]; exact k2
      · rw [goV_y]; simp only [Int.mul_zero, Int.add_zero, Int.one_mul]; exact k3
      · rw [goV_y]; simp only [Int.mul_zero, Int.add_zero, Int.one_mul]; exact k4
      · have := k5 hr
        have e : quad b s (goV s ⟨0, 0⟩ 1) (0 * c) (1 * c) = quad b s (goV s ⟨0, 0⟩ 1) a c := by
          unfold quad segA segH
          simp only [goV_x, goV_y]
          grind
        rw [e]; exact this
    rw [in1_scale hc, ← has_in1 hb, e] at hI0
    exact hI0
theorem meets_eq {b : Body} {p q : Vec} (hb : b.ok = true) (hp : p.In) (hq : q.In) (hs : shortB p q = true) : meetsB b p q = (whereP b p q).2 := by
  unfold meetsB
  rw [wrongE_of (F := oneB b) hp hq (fun _ _ => hb) hs]
  rfl
theorem part_val {b : Body} {p q : Vec} (hb : b.ok = true) (hp : p.In) (hq : q.In) (hs : shortB p q = true) : partE b p q = match !(whereP b p q).2 with | true => (0, 6) | false => ((partW (whereP b p q).1 : Int), 0) := by
  unfold partE
  rw [wrongE_of (F := oneB b) hp hq (fun _ _ => hb) hs]
  rfl
/-- The part, by places. -/
theorem partW_le {w : Plc} : partW w ≤ 65536 := by have := firstF_le (f := aheadB w) (r := 65536) (k := 0); unfold partW; omega
theorem partW_lt {w : Plc} (hs : 0 ≤ w.s) (hm : 0 < w.m) {i : Nat} (h : i < partW w) : ¬ w.lt ((i : Int) + 1) 65536 := by
  have := firstF_no (f := aheadB w) (r := 65536) (k := 0) (Nat.zero_le i) h
  intro c
  rw [(ahead_lt hs).2 c] at this
  cases this
theorem partW_ge {w : Plc} (hs : 0 ≤ w.s) (h : partW w < 65536) : w.lt ((partW w : Int) + 1) 65536 := by
  have := firstF_yes (f := aheadB w) (r := 65536) (k := 0) (by unfold partW at h; omega)
  exact (ahead_lt hs).1 this
end Go.Proofs.YtcojfohjdibjjaaGreatDoor
