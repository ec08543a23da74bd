/- Parts of segments; points. -/
import Derived.Test.YtcbpajkgmpibgaaK3
import Derived.Test.YtcbpajkgmpibgaaC18
namespace Go.Proofs.Ytcbpajkgmpibgaa
open Go.RowKit

/-- The point p + (a / c) v lies in the body. -/
def In1 (b : Body) (p v : Vec) (a c : Int) : Prop := Inb b p (goV p v 1) a c
theorem goV_x (p v : Vec) (n : Int) : (goV p v n).x - p.x = n * v.x := by unfold goV; simp only; omega
theorem goV_y (p v : Vec) (n : Int) : (goV p v n).y - p.y = n * v.y := by unfold goV; simp only; omega
theorem quad_go (b : Body) (p v : Vec) (n a c : Int) : quad b p (goV p v n) a c = quad b p (goV p v 1) (a * n) c := by
  unfold quad segA segH
  simp only [goV_x, goV_y]
  grind
theorem inb_go {b : Body} {p v : Vec} {n a c : Int} : Inb b p (goV p v n) a c ↔ In1 b p v (a * n) c := by
  have e1 : a * (n * v.x) = a * n * (1 * v.x) := by grind
  have e2 : a * (n * v.y) = a * n * (1 * v.y) := by grind
  constructor
  · rintro ⟨⟨⟨h1, h2⟩, h3, h4⟩, h5⟩
    rw [goV_x, e1] at h1 h2
    rw [goV_y, e2] at h3 h4
    refine ⟨⟨⟨?_, ?_⟩, ?_, ?_⟩, fun hr => ?_⟩
    · rw [goV_x]; exact h1
    · rw [goV_x]; exact h2
    · rw [goV_y]; exact h3
    · rw [goV_y]; exact h4
    · rw [← quad_go]; exact h5 hr
  · rintro ⟨⟨⟨h1, h2⟩, h3, h4⟩, h5⟩
    rw [goV_x] at h1 h2
    rw [goV_y] at h3 h4
    refine ⟨⟨⟨?_, ?_⟩, ?_, ?_⟩, fun hr => ?_⟩
    · rw [goV_x, e1]; exact h1
    · rw [goV_x, e1]; exact h2
    · rw [goV_y, e2]; exact h3
    · rw [goV_y, e2]; exact h4
    · rw [quad_go]; exact h5 hr
theorem in1_scale {b : Body} {p v : Vec} {a c k : Int} (hk : 0 < k) : In1 b p v (a * k) (c * k) ↔ In1 b p v a c := by
  have sl : ∀ fr way lo hi : Int, Slab fr way lo hi (a * k) (c * k) ↔ Slab fr way lo hi a c := fun fr way lo hi => by
    have e1 : c * k * fr + a * k * way = (c * fr + a * way) * k := by grind
    have e2 : c * k * lo = (c * lo) * k := by grind
    have e3 : c * k * hi = (c * hi) * k := by grind
    unfold Slab
    rw [e1, e2, e3]
    exact and_congr (Int.mul_le_mul_right hk) (Int.mul_le_mul_right hk)
  have qu : quad b p (goV p v 1) (a * k) (c * k) ≤ 0 ↔ quad b p (goV p v 1) a c ≤ 0 := by
    have e : quad b p (goV p v 1) (a * k) (c * k) = quad b p (goV p v 1) a c * (k * k) := by unfold quad; grind
    have hkk : 0 < k * k := Int.mul_pos hk hk
    rw [e]
    constructor
    · intro h
      rcases Int.lt_or_le 0 (quad b p (goV p v 1) a c) with hp | hp
      · have := Int.mul_pos hp hkk; omega
      · exact hp
    · intro h
      exact Int.mul_nonpos_of_nonpos_of_nonneg h (by omega)
  constructor
  · rintro ⟨⟨h1, h2⟩, h3⟩
    exact ⟨⟨(sl _ _ _ _).1 h1, (sl _ _ _ _).1 h2⟩, fun hr => qu.1 (h3 hr)⟩
  · rintro ⟨⟨h1, h2⟩, h3⟩
    exact ⟨⟨(sl _ _ _ _).2 h1, (sl _ _ _ _).2 h2⟩, fun hr => qu.2 (h3 hr)⟩
/-- A part of a segment meets what the segment meets in that part. -/
theorem part_meets {b : Body} {p v : Vec} {i n : Int} (hb : b.ok = true) (hn : 0 < n) (hi : 0 ≤ i) (hin : i ≤ n) : (whereP b p (goV p v i)).2 = true ↔ (whereP b p (goV p v n)).2 = true ∧ (whereP b p (goV p v n)).1.le i n := by
  constructor
  · intro h
    obtain ⟨h1, h2⟩ := of_met hb h
    obtain ⟨a, c, hc, ha, hac, hI⟩ := h2 1 1 (by decide) (by decide) h1
    have hI : Inb b p (goV p v n) (a * i) (c * n) := by
      rw [inb_go, in1_scale hn, ← inb_go]; exact hI
    have hcn : 0 < c * n := Int.mul_pos hc hn
    have hle : a * i ≤ c * n := Int.mul_le_mul (by omega) hin hi (by omega)
    obtain ⟨k1, k2⟩ := met_of hb hcn (Int.mul_nonneg ha hi) hle hI
    refine ⟨k1, Plc.le_mono (where_pos k1).1 hcn hn k2 ?_⟩
    have e1 : a * i * n = (i * n) * a := by grind
    have e2 : i * (c * n) = (i * n) * c := by grind
    rw [e1, e2]
    exact Int.mul_le_mul_of_nonneg_left (by omega) (Int.mul_nonneg hi (by omega))
  · rintro ⟨h, hle⟩
    obtain ⟨-, h2⟩ := of_met hb h
    obtain ⟨a, c, hc, ha, hac, hI⟩ := h2 i n hn hi hle
    rw [inb_go] at hI
    rcases Int.lt_or_le 0 i with h0 | h0
    · have hI' : Inb b p (goV p v i) (a * n) (c * i) := by rw [inb_go, in1_scale h0]; exact hI
      exact (met_of hb (Int.mul_pos hc h0) (Int.mul_nonneg ha (by omega)) (by rw [Int.mul_comm c i]; exact hac) hI').1
    · obtain rfl : i = 0 := by omega
      have han : a * n = 0 := by
        have := Int.mul_nonneg ha (Int.le_of_lt hn)
        omega
      have hI' : Inb b p (goV p v 0) 0 c := by rw [inb_go, Int.mul_zero, ← han]; exact hI
      exact (met_of hb hc (by decide) (by omega) hI').1
/-- A body has a point. -/
theorem has_iff {b : Body} {s : Vec} (hb : b.ok = true) : b.hasB s = true ↔ (b.low.x ≤ s.x ∧ s.x ≤ b.high.x) ∧ (b.low.y ≤ s.y ∧ s.y ≤ b.high.y) ∧ (b.round = true → (s.x - b.posX) * (s.x - b.posX) + (s.y - b.posY) * (s.y - b.posY) ≤ b.w * b.w) := by
  unfold Body.hasB
  rw [hb]
  simp only [Bool.not_true]
  have ok : ∀ lo hi x : Int, (!okI lo hi x) = false ↔ lo ≤ x ∧ x ≤ hi := fun lo hi x => by
    simp only [okI, Bool.not_eq_false', Bool.and_true, Bool.not_eq_true', Bool.or_eq_false_iff, decide_eq_false_iff_not]
    omega
  have nok : ∀ lo hi x : Int, (!okI lo hi x) = true → ¬ (lo ≤ x ∧ x ≤ hi) := fun lo hi x h c => by rw [(ok _ _ _).2 c] at h; cases h
  split
  · rename_i h1
    simp only [Bool.false_eq_true, false_iff]
    exact fun c => nok _ _ _ h1 c.1
  · rename_i h1
    split
    · rename_i h2
      simp only [Bool.false_eq_true, false_iff]
      exact fun c => nok _ _ _ h2 c.2.1
    · rename_i h2
      rw [Bool.or_eq_true, decide_eq_true_eq]
      constructor
      · intro h
        exact ⟨(ok _ _ _).1 h1, (ok _ _ _).1 h2, fun hr => by
          rcases h with h | h
          · rw [hr] at h; cases h
          · exact h⟩
      · intro ⟨_, _, h⟩
        cases hr : b.round with
        | false => exact .inl rfl
        | true => exact .inr (h hr)
theorem has_in1 {b : Body} {p v : Vec} {i : Int} (hb : b.ok = true) : b.hasB (goV p v i) = true ↔ In1 b p v i 1 := by
  rw [has_iff hb]
  have q1 : quad b p (goV p v 1) i 1 = ((goV p v i).x - b.posX) * ((goV p v i).x - b.posX) + ((goV p v i).y - b.posY) * ((goV p v i).y - b.posY) - b.w * b.w := by
    unfold quad segA segH segC goV
    simp only
    grind
  have x1 : (goV p v i).x = p.x + i * v.x := rfl
  have y1 : (goV p v i).y = p.y + i * v.y := rfl
  constructor
  · rintro ⟨⟨h1, h2⟩, ⟨h3, h4⟩, h5⟩
    refine ⟨⟨⟨?_, ?_⟩, ?_, ?_⟩, fun hr => ?_⟩
    · rw [goV_x]; rw [x1] at h1; simp only [Int.one_mul]; exact h1
    · rw [goV_x]; rw [x1] at h2; simp only [Int.one_mul]; exact h2
    · rw [goV_y]; rw [y1] at h3; simp only [Int.one_mul]; exact h3
    · rw [goV_y]; rw [y1] at h4; simp only [Int.one_mul]; exact h4
    · rw [q1]; have := h5 hr; omega
  · rintro ⟨⟨⟨h1, h2⟩, h3, h4⟩, h5⟩
    rw [goV_x] at h1 h2
    rw [goV_y] at h3 h4
    simp only [Int.one_mul] at h1 h2 h3 h4
    refine ⟨⟨?_, ?_⟩, ⟨?_, ?_⟩, fun hr => ?_⟩
    · rw [x1]; exact h1
    · rw [x1]; exact h2
    · rw [y1]; exact h3
    · rw [y1]; exact h4
    · have := h5 hr; rw [q1] at this; omega
/-- A body that has a point of a segment is met. -/
theorem has_meets {b : Body} {p v : Vec} {i n : Int} (hb : b.ok = true) (hn : 0 < n) (hi : 0 ≤ i) (hin : i ≤ n) (h : b.hasB (goV p v i) = true) : (whereP b p (goV p v n)).2 = true ∧ (whereP b p (goV p v n)).1.le i n := by
  rw [has_in1 hb] at h
  have hI : Inb b p (goV p v n) i n := by
    rw [inb_go]
    have := (in1_scale (b := b) (p := p) (v := v) (a := i) (c := 1) hn).2 h
    rwa [Int.one_mul] at this
  exact met_of hb hn hi hin hI
theorem goV_0 (p v : Vec) : goV p v 0 = p := by unfold goV; simp
/-- A segment of one point meets what has it. -/
theorem has_point {b : Body} {s : Vec} (hb : b.ok = true) : b.hasB s = (whereP b s s).2 := by
  rw [Bool.eq_iff_iff]
  have e := goV_0 s ⟨0, 0⟩
  have hg : ∀ n, goV s ⟨0, 0⟩ n = s := fun n => by unfold goV; simp
  constructor
  · intro h
    have := has_meets (p := s) (v := ⟨0, 0⟩) (i := 0) (n := 1) hb (by decide) (by decide) (by decide) (by rw [e]; exact h)
    rw [hg] at this
    exact this.1
  · intro h
    obtain ⟨h1, h2⟩ := of_met hb h
    obtain ⟨a, c, hc, ha, hac, hI⟩ := h2 1 1 (by decide) (by decide) h1
    have hI : In1 b s ⟨0, 0⟩ a c := by
      have := (inb_go (b := b) (p := s) (v := ⟨0, 0⟩) (n := 1) (a := a) (c := c)).1 (by rw [hg]; exact hI)
      rwa [Int.mul_one] at this
    have hI0 : In1 b s ⟨0, 0⟩ (0 * c) (1 * c) := by
      obtain ⟨⟨⟨k1, k2⟩, k3, k4⟩, k5⟩ := hI
      rw [goV_x] at k1 k2
      rw [goV_y] at k3 k4
      simp only [Int.mul_zero, Int.add_zero] at k1 k2 k3 k4
      refine ⟨⟨⟨?_, ?_⟩, ?_, ?_⟩, fun hr => ?_⟩
      · rw [goV_x]; simp only [Int.mul_zero, Int.add_zero, Int.one_mul]; exact k1
      · rw [goV_x]; simp only [Int.mul_zero, Int.add_zero, Int.one_mul]; exact k2
      · rw [goV_y]; simp only [Int.mul_zero, Int.add_zero, Int.one_mul]; exact k3
      · rw [goV_y]; simp only [Int.mul_zero, Int.add_zero, Int.one_mul]; exact k4
      · have := k5 hr
        have e : quad b s (goV s ⟨0, 0⟩ 1) (0 * c) (1 * c) = quad b s (goV s ⟨0, 0⟩ 1) a c := by
          unfold quad segA segH
          simp only [goV_x, goV_y]
          grind
        rw [e]; exact this
    rw [in1_scale hc, ← has_in1 hb, e] at hI0
    exact hI0
theorem meets_eq {b : Body} {p q : Vec} (hb : b.ok = true) (hp : p.In) (hq : q.In) (hs : shortB p q = true) : meetsB b p q = (whereP b p q).2 := by
  unfold meetsB
  rw [wrongE_of (F := oneB b) hp hq (fun _ _ => hb) hs]
  rfl
theorem part_val {b : Body} {p q : Vec} (hb : b.ok = true) (hp : p.In) (hq : q.In) (hs : shortB p q = true) : partE b p q = match !(whereP b p q).2 with | true => (0, 6) | false => ((partW (whereP b p q).1 : Int), 0) := by
  unfold partE
  rw [wrongE_of (F := oneB b) hp hq (fun _ _ => hb) hs]
  rfl
/-- The part, by places. -/
theorem partW_le {w : Plc} : partW w ≤ 65536 := by have := firstF_le (f := aheadB w) (r := 65536) (k := 0); unfold partW; omega
theorem partW_lt {w : Plc} (hs : 0 ≤ w.s) (hm : 0 < w.m) {i : Nat} (h : i < partW w) : ¬ w.lt ((i : Int) + 1) 65536 := by
  have := firstF_no (f := aheadB w) (r := 65536) (k := 0) (Nat.zero_le i) h
  intro c
  rw [(ahead_lt hs).2 c] at this
  cases this
theorem partW_ge {w : Plc} (hs : 0 ≤ w.s) (h : partW w < 65536) : w.lt ((partW w : Int) + 1) 65536 := by
  have := firstF_yes (f := aheadB w) (r := 65536) (k := 0) (by unfold partW at h; omega)
  exact (ahead_lt hs).1 this
end Go.Proofs.Ytcbpajkgmpibgaa
