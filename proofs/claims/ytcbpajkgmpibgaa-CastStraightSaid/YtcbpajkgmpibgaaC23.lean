/- CastStraight: the plain laws. -/
import Derived.Test.YtcbpajkgmpibgaaC21
namespace Go.Proofs.Ytcbpajkgmpibgaa
open Go.RowKit

/-- p + (i, 0). -/
def hp (p : Vec) (i : Int) : Vec := ⟨p.x + i, p.y⟩
theorem hp_eq (p : Vec) (i : Int) : hp p i = goV p ⟨1, 0⟩ i := by unfold hp goV; simp
/-- The place of the nearest point to the middle. -/
def nearT (b : Body) (p : Vec) (n : Int) : Int := min (max b.posX p.x) (p.x + n)
def wantB (b : Body) (p : Vec) (n : Int) : Bool := match !b.round with
  | true => decide (max (nearT b p n - b.posX) (-(nearT b p n - b.posX)) ≤ b.w) && decide (max (p.y - b.posY) (-(p.y - b.posY)) ≤ b.h)
  | false => decide ((nearT b p n - b.posX) * (nearT b p n - b.posX) + (p.y - b.posY) * (p.y - b.posY) ≤ b.w * b.w)
theorem nearT_rng (b : Body) (p : Vec) {n : Int} (hn : 0 ≤ n) : 0 ≤ nearT b p n - p.x ∧ nearT b p n - p.x ≤ n := by unfold nearT; omega
theorem want_has {b : Body} {p : Vec} {n : Int} (hb : b.ok = true) : wantB b p n = b.hasB (hp p (nearT b p n - p.x)) := by
  rw [Bool.eq_iff_iff, has_iff hb]
  obtain ⟨e1, e2⟩ := low_eq hb
  have hk := Body.Ok.of hb
  have hw := hk.w.1
  have ex : (hp p (nearT b p n - p.x)).x = nearT b p n := by unfold hp; simp only; omega
  have ey : (hp p (nearT b p n - p.x)).y = p.y := rfl
  rw [ex, ey, e1, e2]
  unfold wantB
  cases hr : b.round with
  | false =>
    simp only [Bool.not_false, Bool.and_eq_true, decide_eq_true_eq]
    constructor
    · rintro ⟨h1, h2⟩
      exact ⟨⟨by omega, by omega⟩, ⟨by omega, by omega⟩, fun c => by cases c⟩
    · rintro ⟨⟨h1, h2⟩, ⟨h3, h4⟩, -⟩
      exact ⟨by omega, by omega⟩
  | true =>
    simp only [Bool.not_true, decide_eq_true_eq]
    have hwh := hk.r hr
    constructor
    · intro h
      have s1 := sq_nn (nearT b p n - b.posX)
      have s2 := sq_nn (p.y - b.posY)
      have k1 := abs_sq (x := nearT b p n - b.posX) (y := b.w) (by omega) (by omega)
      have k2 := abs_sq (x := p.y - b.posY) (y := b.w) (by omega) (by omega)
      exact ⟨⟨by omega, by omega⟩, ⟨by omega, by omega⟩, fun _ => h⟩
    · rintro ⟨-, -, h⟩
      exact h trivial
/-- What the segment meets, has the nearest point. -/
theorem near_has {b : Body} {p : Vec} {n : Int} (hb : b.ok = true) (hn : 0 ≤ n) (hm : (whereP b p (hp p n)).2 = true) : b.hasB (hp p (nearT b p n - p.x)) = true := by
  obtain ⟨m1, m2⟩ := of_met hb hm
  obtain ⟨a, c, hc, ha, hac, hI⟩ := m2 1 1 (by decide) (by decide) m1
  rw [has_iff hb]
  obtain ⟨e1, e2⟩ := low_eq hb
  have ex : (hp p (nearT b p n - p.x)).x = nearT b p n := by unfold hp; simp only; omega
  have ey : (hp p (nearT b p n - p.x)).y = p.y := rfl
  rw [ex, ey, e1, e2]
  obtain ⟨⟨⟨s1, s2⟩, s3, s4⟩, s5⟩ := hI
  have q1 : (hp p n).x - p.x = n := by unfold hp; simp only; omega
  have q2 : (hp p n).y - p.y = 0 := by unfold hp; simp only; omega
  rw [e1] at s1 s3
  rw [e2] at s2 s4
  rw [q1] at s1 s2
  rw [q2] at s3 s4
  simp only [Int.mul_zero, Int.add_zero] at s1 s2 s3 s4
  have hac : a ≤ c := by omega
  have han : a * n ≤ c * n := Int.mul_le_mul_of_nonneg_right hac hn
  have han0 : 0 ≤ a * n := Int.mul_nonneg ha hn
  -- the scaled distance
  have key : (0 ≤ c * (nearT b p n - b.posX) ∧ c * (nearT b p n - b.posX) ≤ c * (p.x - b.posX) + a * n) ∨ (c * (p.x - b.posX) + a * n ≤ c * (nearT b p n - b.posX) ∧ c * (nearT b p n - b.posX) ≤ 0) := by
    rcases Int.le_total b.posX p.x with h1 | h1
    · have e : nearT b p n = p.x := by unfold nearT; omega
      rw [e]
      exact .inl ⟨Int.mul_nonneg (by omega) (by omega), by omega⟩
    · rcases Int.le_total b.posX (p.x + n) with h2 | h2
      · have e : nearT b p n = b.posX := by unfold nearT; omega
        rw [e, Int.sub_self, Int.mul_zero]
        rcases Int.le_total 0 (c * (p.x - b.posX) + a * n) with h3 | h3
        · exact .inl ⟨Int.le_refl _, h3⟩
        · exact .inr ⟨h3, Int.le_refl _⟩
      · have e : nearT b p n = p.x + n := by unfold nearT; omega
        rw [e]
        have e3 : c * (p.x + n - b.posX) = c * (p.x - b.posX) + c * n := by grind
        refine .inr ⟨by omega, ?_⟩
        exact Int.mul_nonpos_of_nonneg_of_nonpos (by omega) (by omega)
  have le_c : ∀ x y : Int, c * x ≤ c * y → x ≤ y := fun x y h => Int.le_of_mul_le_mul_left h hc
  refine ⟨⟨?_, ?_⟩, ⟨le_c _ _ s3, le_c _ _ s4⟩, fun hr => ?_⟩
  · refine le_c _ _ ?_
    simp only [Int.mul_sub, Int.mul_add] at *
    omega
  · refine le_c _ _ ?_
    have hw := (Body.Ok.of hb).w.1
    have := Int.mul_nonneg (Int.le_of_lt hc) (Int.le_of_lt (show (0 : Int) < b.w by omega))
    simp only [Int.mul_sub, Int.mul_add] at *
    omega
  · have hq := s5 hr
    rw [quad_eq, q1, q2] at hq
    simp only [Int.mul_zero, Int.add_zero] at hq
    have hsq : c * (nearT b p n - b.posX) * (c * (nearT b p n - b.posX)) ≤ (c * (p.x - b.posX) + a * n) * (c * (p.x - b.posX) + a * n) := by
      rcases key with ⟨k1, k2⟩ | ⟨k1, k2⟩
      · exact sq_le k1 k2
      · have := sq_le (x := -(c * (nearT b p n - b.posX))) (y := -(c * (p.x - b.posX) + a * n)) (by omega) (by omega)
        rwa [Int.neg_mul_neg, Int.neg_mul_neg] at this
    have hcc : 0 < c * c := Int.mul_pos hc hc
    refine Int.le_of_mul_le_mul_left (a := c * c) ?_ hcc
    have e4 : c * c * ((nearT b p n - b.posX) * (nearT b p n - b.posX) + (p.y - b.posY) * (p.y - b.posY)) = c * (nearT b p n - b.posX) * (c * (nearT b p n - b.posX)) + c * (p.y - b.posY) * (c * (p.y - b.posY)) := by grind
    have e5 : c * c * (b.w * b.w) = c * b.w * (c * b.w) := by grind
    rw [e4, e5]
    omega
/-- What lies between two points of a body, lies in it. -/
theorem in1_between {b : Body} {p v : Vec} {a c i t : Int} (hc : 0 < c) (h1 : In1 b p v a c) (h2 : In1 b p v t 1) (k1 : a ≤ i * c) (k2 : i ≤ t) : In1 b p v i 1 := by
  obtain ⟨⟨⟨s1, s2⟩, s3, s4⟩, s5⟩ := h1
  obtain ⟨⟨⟨t1, t2⟩, t3, t4⟩, t5⟩ := h2
  have le_c : ∀ x y : Int, c * x ≤ c * y → x ≤ y := fun x y h => Int.le_of_mul_le_mul_left h hc
  -- on one axis
  have lin : ∀ fr way lo hi : Int, c * lo ≤ c * fr + a * way → c * fr + a * way ≤ c * hi → 1 * lo ≤ 1 * fr + t * way → 1 * fr + t * way ≤ 1 * hi → 1 * lo ≤ 1 * fr + i * way ∧ 1 * fr + i * way ≤ 1 * hi := fun fr way lo hi u1 u2 u3 u4 => by
    rcases Int.le_total 0 way with hw | hw
    · have m1 := Int.mul_le_mul_of_nonneg_right k1 hw
      have m2 := Int.mul_le_mul_of_nonneg_right k2 hw
      have e1 : i * c * way = c * (i * way) := by grind
      refine ⟨?_, by omega⟩
      have := le_c lo (fr + i * way) (by rw [Int.mul_add]; omega)
      omega
    · have m1 := Int.mul_le_mul_of_nonpos_right k1 hw
      have m2 := Int.mul_le_mul_of_nonpos_right k2 hw
      have e1 : i * c * way = c * (i * way) := by grind
      refine ⟨by omega, ?_⟩
      have := le_c (fr + i * way) hi (by rw [Int.mul_add]; omega)
      omega
  refine ⟨⟨lin _ _ _ _ s1 s2 t1 t2, lin _ _ _ _ s3 s4 t3 t4⟩, fun hr => ?_⟩
  have q1 := s5 hr
  have q2 := t5 hr
  rcases Int.lt_or_le a (t * c) with hd | hd
  · have hA := segA_nn p (goV p v 1)
    have id : c * (t * c - a) * quad b p (goV p v 1) i 1 = (t - i) * quad b p (goV p v 1) a c + c * (i * c - a) * quad b p (goV p v 1) t 1 - segA p (goV p v 1) * ((t - i) * (i * c - a) * (t * c - a)) := by
      unfold quad
      grind
    have h1 : (t - i) * quad b p (goV p v 1) a c ≤ 0 := Int.mul_nonpos_of_nonneg_of_nonpos (by omega) q1
    have h2 : c * (i * c - a) * quad b p (goV p v 1) t 1 ≤ 0 := Int.mul_nonpos_of_nonneg_of_nonpos (Int.mul_nonneg (by omega) (by omega)) q2
    have h3 : 0 ≤ segA p (goV p v 1) * ((t - i) * (i * c - a) * (t * c - a)) := Int.mul_nonneg hA (Int.mul_nonneg (Int.mul_nonneg (by omega) (by omega)) (by omega))
    have hpos : 0 < c * (t * c - a) := Int.mul_pos hc (by omega)
    rcases Int.lt_or_le 0 (quad b p (goV p v 1) i 1) with hq | hq
    · have := Int.mul_pos hpos hq
      omega
    · exact hq
  · have : i = t := by
      have h1 := Int.mul_le_mul_of_nonneg_right k2 (Int.le_of_lt hc)
      have h2 : i * c = t * c := by omega
      exact Int.eq_of_mul_eq_mul_right (by omega) h2
    rw [this]; exact q2
/-- The part, between two places. -/
theorem part_high {w : Plc} (hs : 0 ≤ w.s) (hm : 0 < w.m) {f n : Int} (hn : 0 < n) (hf : 0 ≤ f) (h : w.le f n) : (partW w : Int) ≤ 65536 * f / n := by
  have hh : 0 ≤ 65536 * f / n := Int.ediv_nonneg (by omega) (by omega)
  obtain ⟨k, hk⟩ := Int.eq_ofNat_of_zero_le hh
  rw [hk]
  rcases Nat.lt_or_ge k (partW w) with hlt | hge
  · exfalso
    refine partW_lt hs hm hlt (Plc.le_lt hm hn (by decide) h ?_)
    have := Int.lt_mul_ediv_self_add (x := 65536 * f) hn
    rw [hk] at this
    have e : ((k : Int) + 1) * n = n * k + n := by grind
    show f * 65536 < ((k : Int) + 1) * n
    rw [e]
    have : 65536 * f < n * (k : Int) + n := this
    omega
  · omega
theorem part_low {w : Plc} (hs : 0 ≤ w.s) (hm : 0 < w.m) {f n : Int} (hn : 0 < n) (hf : 0 ≤ f) (hfn : f ≤ n) (h : ¬ w.le f n) : 65536 * f / n ≤ (partW w : Int) := by
  have hh : 0 ≤ 65536 * f / n := Int.ediv_nonneg (by omega) (by omega)
  have hmul := Int.mul_ediv_self_le (x := 65536 * f) (k := n) (by omega)
  obtain ⟨k, hk⟩ := Int.eq_ofNat_of_zero_le hh
  rw [hk] at hmul ⊢
  rcases Nat.lt_or_ge (partW w) k with hlt | hge
  · exfalso
    have hp : partW w < 65536 := by
      have : n * (k : Int) ≤ n * 65536 := by
        have : n * (k : Int) ≤ 65536 * f := hmul
        omega
      have := Int.le_of_mul_le_mul_left this hn
      omega
    refine h (Plc.le_mono hm (by decide) hn (Plc.lt_le (partW_ge hs hp)) ?_)
    have h1 : ((partW w : Int) + 1) * n ≤ (k : Int) * n := Int.mul_le_mul_of_nonneg_right (by omega) (by omega)
    have e : (k : Int) * n = n * k := Int.mul_comm _ _
    have : n * (k : Int) ≤ 65536 * f := hmul
    omega
  · omega
theorem part_flat {w : Plc} (hs : w.s = 0) (hm : 0 < w.m) {f n : Int} (hn : 0 < n) (hf : 0 ≤ f) (hfn : f ≤ n) (h : f * w.m ≤ w.n * n) : 65536 * f / n ≤ (partW w : Int) := by
  have hh : 0 ≤ 65536 * f / n := Int.ediv_nonneg (by omega) (by omega)
  have hmul := Int.mul_ediv_self_le (x := 65536 * f) (k := n) (by omega)
  obtain ⟨k, hk⟩ := Int.eq_ofNat_of_zero_le hh
  rw [hk] at hmul ⊢
  rcases Nat.lt_or_ge (partW w) k with hlt | hge
  · exfalso
    have hmul : n * (k : Int) ≤ 65536 * f := hmul
    have hp : partW w < 65536 := by
      have := Int.le_of_mul_le_mul_left (show n * (k : Int) ≤ n * 65536 by omega) hn
      omega
    have hlt' := partW_ge (w := w) (by omega) hp
    unfold Plc.lt at hlt'
    rw [hs] at hlt'
    have h1 : ((partW w : Int) + 1) * n ≤ (k : Int) * n := Int.mul_le_mul_of_nonneg_right (by omega) (by omega)
    have e : (k : Int) * n = n * k := Int.mul_comm _ _
    have h2 : ((partW w : Int) + 1) * n ≤ 65536 * f := by omega
    have h3 := Int.mul_le_mul_of_nonneg_right h2 (Int.le_of_lt hm)
    have h4 : ((partW w : Int) + 1) * w.m * n ≤ w.n * 65536 * n := by
      have e1 : ((partW w : Int) + 1) * n * w.m = ((partW w : Int) + 1) * w.m * n := by grind
      have e2 : 65536 * f * w.m = 65536 * (f * w.m) := by grind
      have e3 : w.n * 65536 * n = 65536 * (w.n * n) := by grind
      omega
    have h5 := Int.le_of_mul_le_mul_right h4 hn
    rcases hlt' with hlt' | hlt'
    · omega
    · have := sq_nn (w.n * 65536 - ((partW w : Int) + 1) * w.m)
      omega
  · omega
/-- No point of the body ahead of f, where f is met or the end. -/
structure FirstAt (b : Body) (p : Vec) (n f : Int) : Prop where
  f0 : 0 ≤ f
  fn : f ≤ n
  no : ∀ j, 0 ≤ j → j < f → b.hasB (hp p j) = false
  yes : f = n ∨ b.hasB (hp p f) = true
theorem straight_law {b : Body} {p : Vec} {n f : Int} (hb : b.ok = true) (hn : 0 < n) (hm : (whereP b p (hp p n)).2 = true) (hF : FirstAt b p n f) :
    (partW (whereP b p (hp p n)).1 : Int) ≤ 65536 * f / n ∧ 65536 * max (f - 1) 0 / n ≤ partW (whereP b p (hp p n)).1 ∧ (b.round = false → 65536 * f / n ≤ partW (whereP b p (hp p n)).1) := by
  obtain ⟨wm, ws⟩ := where_pos hm
  obtain ⟨m1, m2⟩ := of_met hb hm
  have hT := near_has hb (Int.le_of_lt hn) hm
  obtain ⟨t0, t1⟩ := nearT_rng b p (Int.le_of_lt hn)
  have hfT : f ≤ nearT b p n - p.x := by
    rcases Int.lt_or_le (nearT b p n - p.x) f with h | h
    · rw [hF.no _ t0 h] at hT; cases hT
    · exact h
  have hTi : In1 b p ⟨1, 0⟩ (nearT b p n - p.x) 1 := (has_in1 hb).1 (by rw [← hp_eq]; exact hT)
  have inb1 : ∀ a c, Inb b p (hp p n) a c → In1 b p ⟨1, 0⟩ (a * n) c := fun a c h => by rw [hp_eq] at h; exact inb_go.1 h
  have hlef : (whereP b p (hp p n)).1.le f n := by
    rcases hF.yes with h | h
    · rw [h]; exact Plc.le_mono wm (by decide) hn m1 (by omega)
    · have := has_meets (p := p) (v := ⟨1, 0⟩) hb hn hF.f0 hF.fn (by rw [← hp_eq]; exact h)
      rw [← hp_eq] at this
      exact this.2
  have nole : ∀ j, 0 ≤ j → j < f → ¬ (whereP b p (hp p n)).1.le j n := fun j j0 j1 hle => by
    obtain ⟨a, c, hc, ha, hac, hI⟩ := m2 j n hn j0 hle
    have := in1_between (i := j) hc (inb1 a c hI) hTi hac (by omega)
    rw [← has_in1 hb, ← hp_eq, hF.no j j0 j1] at this
    cases this
  refine ⟨part_high ws wm hn hF.f0 hlef, ?_, fun hr => ?_⟩
  · rcases Int.lt_or_le 0 f with h | h
    · rw [show max (f - 1) 0 = f - 1 by omega]
      have := hF.fn
      exact part_low ws wm hn (by omega) (by omega) (nole _ (by omega) (by omega))
    · rw [show max (f - 1) 0 = 0 by omega, Int.mul_zero, Int.zero_ediv]
      omega
  · have hfl : (whereP b p (hp p n)).1.s = 0 ∧ 0 ≤ (whereP b p (hp p n)).1.n := by
      unfold whereP at hm ⊢
      rw [hr] at hm ⊢
      simp only [Bool.not_false, Bool.or_true] at hm ⊢
      obtain ⟨r, e0, -⟩ := enter_yes hm
      exact ⟨r.s, e0⟩
    refine part_flat hfl.1 wm hn hF.f0 hF.fn ?_
    rcases Int.lt_or_le ((whereP b p (hp p n)).1.n * n) (f * (whereP b p (hp p n)).1.m) with hlt | hge
    · exfalso
      obtain ⟨a, c, hc, ha, hac, hI⟩ := m2 _ _ wm hfl.2 ((Plc.le_flat hfl.1).2 (Int.le_refl _))
      have h1 := inb1 a c hI
      obtain ⟨e1, e2⟩ := low_eq hb
      obtain ⟨⟨⟨s1, s2⟩, s3, s4⟩, -⟩ := h1
      rw [goV_x] at s1 s2
      rw [goV_y] at s3 s4
      rw [e1] at s1 s3
      rw [e2] at s2 s4
      simp only [Int.mul_zero, Int.mul_one, Int.add_zero] at s1 s2 s3 s4
      -- a * n < f * c
      have h2 : a * n < f * c := by
        have u1 := Int.mul_le_mul_of_nonneg_right hac (Int.le_of_lt hn)
        have u2 := Int.mul_lt_mul_of_pos_right hlt hc
        have e3 : a * (whereP b p (hp p n)).1.m * n = (a * n) * (whereP b p (hp p n)).1.m := by grind
        have e4 : (whereP b p (hp p n)).1.n * c * n = (whereP b p (hp p n)).1.n * n * c := by grind
        have e5 : f * (whereP b p (hp p n)).1.m * c = (f * c) * (whereP b p (hp p n)).1.m := by grind
        exact Int.lt_of_mul_lt_mul_right (a := (whereP b p (hp p n)).1.m) (by omega) (Int.le_of_lt wm)
      have han : 0 ≤ a * n := Int.mul_nonneg ha (Int.le_of_lt hn)
      have lt_c : ∀ x y : Int, c * x < c * y → x < y := fun x y h => Int.lt_of_mul_lt_mul_left h (Int.le_of_lt hc)
      have le_c : ∀ x y : Int, c * x ≤ c * y → x ≤ y := fun x y h => Int.le_of_mul_le_mul_left h hc
      obtain ⟨j, hj⟩ : ∃ j, j = max (b.posX - b.w - p.x) 0 := ⟨_, rfl⟩
      have hcj : c * j ≤ a * n := by
        rcases Int.le_total (b.posX - b.w - p.x) 0 with h | h
        · rw [show j = 0 by omega, Int.mul_zero]; exact han
        · rw [show j = b.posX - b.w - p.x by omega]
          simp only [Int.mul_sub] at s1 ⊢
          omega
      have hjf : j < f := lt_c _ _ (by rw [Int.mul_comm c f]; omega)
      have hh : b.hasB (hp p j) = true := by
        rw [has_iff hb, e1, e2]
        refine ⟨⟨?_, ?_⟩, ⟨le_c _ _ s3, le_c _ _ s4⟩, fun c => by rw [hr] at c; cases c⟩
        · show b.posX - b.w ≤ p.x + j
          omega
        · show p.x + j ≤ b.posX + b.w
          exact le_c _ _ (by rw [Int.mul_add]; omega)
      rw [hF.no j (by omega) hjf] at hh
      cases hh
    · exact hge
end Go.Proofs.Ytcbpajkgmpibgaa
