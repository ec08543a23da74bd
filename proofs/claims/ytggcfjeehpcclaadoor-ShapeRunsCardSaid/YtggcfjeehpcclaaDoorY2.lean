/- Plain laws: points of bodies. -/
import Derived.Test.YtggcfjeehpcclaaDoorY1
namespace Go.Proofs.YtggcfjeehpcclaaDoor
open Go.RowKit

theorem Body.Made.ok {a : Body} (ha : a.Made) : a.ok = true := by
  obtain ⟨a1, a2, a3, a4, a5, a6, a7, a8, a9⟩ := ha.m
  exact ok_iff.2 ⟨by rw [ha.i]; omega, by omega, by omega, by rw [ha.u]; omega, by rw [ha.v]; omega, by omega, by omega, a9, fun _ => ⟨ha.u, ha.v⟩⟩

theorem sq_abs (d : Int) : max d (-d) * max d (-d) = d * d := absq d

/-- The product of two vectors is no more than that of their lengths. -/
theorem cauchy {s t s' t' w w' : Int} (hw : 0 ≤ w) (hw' : 0 ≤ w') (h : s * s + t * t ≤ w * w) (h' : s' * s' + t' * t' ≤ w' * w') : -(s * s' + t * t') ≤ w * w' := by
  have id1 : (s * s + t * t) * (s' * s' + t' * t') = (s * s' + t * t') * (s * s' + t * t') + (s * t' - t * s') * (s * t' - t * s') := by grind
  have n1 := sq_nn (s * t' - t * s')
  have n2 : 0 ≤ s' * s' + t' * t' := by have := sq_nn s'; have := sq_nn t'; omega
  have n3 : 0 ≤ w * w := Int.mul_nonneg hw hw
  have m1 := Int.mul_le_mul h h' n2 n3
  have id2 : w * w * (w' * w') = w * w' * (w * w') := by grind
  refine le_of_sq (Int.mul_nonneg hw hw') ?_
  rw [Int.neg_mul_neg]
  omega

theorem meet_of_common {a b : Body} {p : Vec} (ha : a.Made) (hb : b.Made) (h : a.has p = true) (h' : b.has p = true) : a.far b ≤ 0 := by
  obtain ⟨-, h1, h2, h3⟩ := has_iff.1 h
  obtain ⟨-, g1, g2, g3⟩ := has_iff.1 h'
  have a5 := ha.m.p1
  have b5 := hb.m.p1
  have key : ∀ {a b : Body}, a.Made → b.Made → a.round = false → b.round = true → a.has p = true → b.has p = true → a.far b ≤ 0 := by
    intro a b ha hb hr hr' h h'
    obtain ⟨-, h1, h2, -⟩ := has_iff.1 h
    obtain ⟨-, g1, g2, g3⟩ := has_iff.1 h'
    have g4 := g3 hr'
    unfold Body.far farV roomV
    rw [hr, hr']
    simp only [Bool.false_eq_true, if_false, if_true]
    have s1 := sq_le (a := max (max (a.posX - b.posX) (-(a.posX - b.posX)) - a.w) 0) (b := max (p.x - b.posX) (-(p.x - b.posX))) (by omega) (by omega)
    have s2 := sq_le (a := max (max (a.posY - b.posY) (-(a.posY - b.posY)) - a.h) 0) (b := max (p.y - b.posY) (-(p.y - b.posY))) (by omega) (by omega)
    rw [sq_abs] at s1 s2
    omega
  cases hr : a.round <;> cases hr' : b.round
  · unfold Body.far farV roomV
    rw [hr, hr']
    simp only [Bool.false_eq_true, if_false]
    omega
  · exact key ha hb hr hr' h h'
  · rw [far_comm]; exact key hb ha hr' hr h' h
  · have h4 := h3 hr
    have g4 := g3 hr'
    unfold Body.far farV roomV
    rw [hr, hr']
    simp only [if_true, sq_abs]
    have c := cauchy (w := a.w) (w' := b.w) (by omega) (by omega) h4 g4
    have id1 : (a.posX - b.posX) * (a.posX - b.posX) + (a.posY - b.posY) * (a.posY - b.posY) =
        ((p.x - a.posX) * (p.x - a.posX) + (p.y - a.posY) * (p.y - a.posY)) + ((p.x - b.posX) * (p.x - b.posX) + (p.y - b.posY) * (p.y - b.posY)) + 2 * -((p.x - a.posX) * (p.x - b.posX) + (p.y - a.posY) * (p.y - b.posY)) := by grind
    have id2 := sq_add a.w b.w
    omega

theorem over_of_middle {a b : Body} (ha : a.Made) (hb : b.Made) (h : a.has ⟨b.posX, b.posY⟩ = true) : a.far b < 0 := by
  obtain ⟨-, h1, h2, h3⟩ := has_iff.1 h
  simp only at h1 h2 h3
  have a5 := ha.m.p1
  have b5 := hb.m.p1
  have b7 := hb.m.q1
  cases hr : a.round <;> cases hr' : b.round <;> unfold Body.far farV roomV <;> rw [hr, hr'] <;> simp only [Bool.false_eq_true, if_false, if_true]
  · omega
  · rw [show max (max (a.posX - b.posX) (-(a.posX - b.posX)) - a.w) 0 = 0 from by omega, show max (max (a.posY - b.posY) (-(a.posY - b.posY)) - a.h) 0 = 0 from by omega]
    have : 0 < b.w * b.w := Int.mul_pos (by omega) (by omega)
    omega
  · have h4 := h3 hr
    have e1 := sq_abs (b.posX - a.posX)
    have e2 := sq_abs (b.posY - a.posY)
    have npos : 0 < a.w * a.w := Int.mul_pos (by omega) (by omega)
    have hd : max (a.posX - b.posX) (-(a.posX - b.posX)) = max (b.posX - a.posX) (-(b.posX - a.posX)) := by omega
    have hd' : max (a.posY - b.posY) (-(a.posY - b.posY)) = max (b.posY - a.posY) (-(b.posY - a.posY)) := by omega
    rw [hd, hd']
    have n1 : 0 ≤ max (b.posX - a.posX) (-(b.posX - a.posX)) := by omega
    have n2 : 0 ≤ max (b.posY - a.posY) (-(b.posY - a.posY)) := by omega
    generalize max (b.posX - a.posX) (-(b.posX - a.posX)) = u at *
    generalize max (b.posY - a.posY) (-(b.posY - a.posY)) = v at *
    have s1 := sq_le (a := max (u - b.w) 0) (b := u) (by omega) (by omega)
    have s2 := sq_le (a := max (v - b.h) 0) (b := v) (by omega) (by omega)
    rcases Int.lt_or_le 0 u with hu | hu
    · have := sq_lt (a := max (u - b.w) 0) (b := u) (by omega) (by omega)
      omega
    · rcases Int.lt_or_le 0 v with hv | hv
      · have := sq_lt (a := max (v - b.h) 0) (b := v) (by omega) (by omega)
        omega
      · have eu : u = 0 := by omega
        have ev : v = 0 := by omega
        subst eu ev
        omega
  · have h4 := h3 hr
    rw [sq_abs, sq_abs]
    have id1 : (a.posX - b.posX) * (a.posX - b.posX) = (b.posX - a.posX) * (b.posX - a.posX) := by grind
    have id2 : (a.posY - b.posY) * (a.posY - b.posY) = (b.posY - a.posY) * (b.posY - a.posY) := by grind
    have := sq_lt (a := a.w) (b := a.w + b.w) (by omega) (by omega)
    omega

def unit (x y : Int) : Body := ⟨0, x, y, 0, 0, 1, 1, true, false⟩
theorem unit_ok {x y : Int} (hx : -800 ≤ x ∧ x ≤ 800) (hy : -800 ≤ y ∧ y ≤ 800) : (unit x y).ok = true :=
  ok_iff.2 ⟨by simp only [unit]; omega, by simp only [unit]; omega, by simp only [unit]; omega, by simp only [unit]; omega, by simp only [unit]; omega, by simp only [unit]; omega, by simp only [unit]; omega, fun _ => rfl, fun _ => ⟨rfl, rfl⟩⟩
theorem over_unit {a : Body} {x y : Int} (ha : a.Made) (h : a.has ⟨x, y⟩ = true) : a.far (unit x y) < 0 := by
  obtain ⟨-, h1, h2, h3⟩ := has_iff.1 h
  simp only at h1 h2 h3
  have a5 := ha.m.p1
  cases hr : a.round <;> unfold Body.far farV roomV unit <;> rw [hr] <;> simp only [Bool.false_eq_true, if_false, if_true]
  · rw [show max (max (a.posX - x) (-(a.posX - x)) - a.w) 0 = 0 from by omega, show max (max (a.posY - y) (-(a.posY - y)) - a.h) 0 = 0 from by omega]
    omega
  · have h4 := h3 hr
    rw [sq_abs, sq_abs]
    have id1 : (a.posX - x) * (a.posX - x) = (x - a.posX) * (x - a.posX) := by grind
    have id2 : (a.posY - y) * (a.posY - y) = (y - a.posY) * (y - a.posY) := by grind
    have := sq_lt (a := a.w) (b := a.w + 1) (by omega) (by omega)
    omega

theorem pt1 {a : Body} {x y : Int} (ha : a.Made) (hx : -800 ≤ x ∧ x ≤ 800) (hy : -800 ≤ y ∧ y ≤ 800) :
    (a.has ⟨x, y⟩ && (!(decide (a.posX - a.w ≤ x) && decide (x ≤ a.posX + a.w) && decide (a.posY - a.h ≤ y) && decide (y ≤ a.posY + a.h)) || !a.over (unit x y)) ||
      !a.round && (decide (a.posX - a.w ≤ x) && decide (x ≤ a.posX + a.w) && decide (a.posY - a.h ≤ y) && decide (y ≤ a.posY + a.h)) && !a.has ⟨x, y⟩) = false := by
  cases h : a.has ⟨x, y⟩ with
  | true =>
    have ho : a.over (unit x y) = true := by simp [Body.over, ha.ok, unit_ok hx hy, over_unit ha h]
    obtain ⟨-, h1, h2, -⟩ := has_iff.1 h
    simp only at h1 h2
    simp [ho, h1.1, h1.2, h2.1, h2.2]
  | false =>
    cases hr : a.round with
    | true => simp
    | false =>
      by_cases hin : (a.posX - a.w ≤ x ∧ x ≤ a.posX + a.w) ∧ (a.posY - a.h ≤ y ∧ y ≤ a.posY + a.h)
      · have := has_iff.2 (show a.ok = true ∧ (a.posX - a.w ≤ (Vec.mk x y).x ∧ _) ∧ _ ∧ _ from ⟨ha.ok, hin.1, hin.2, fun h => by rw [hr] at h; cases h⟩)
        rw [h] at this; cases this
      · rw [Bool.false_and, Bool.false_or, Bool.eq_false_iff]
        intro e
        simp only [Bool.not_false, Bool.true_and, Bool.and_true, Bool.and_eq_true, decide_eq_true_eq] at e
        exact hin ⟨⟨e.1.1.1, e.1.1.2⟩, ⟨e.1.2, e.2⟩⟩
theorem pt2 {a b : Body} {p : Vec} (ha : a.Made) (hb : b.Made) : (a.has p && b.has p && !a.meets b || a.has ⟨b.posX, b.posY⟩ && !a.over b) = false := by
  have h1 : a.has p = true → b.has p = true → a.meets b = true := fun h h' => by simp [Body.meets, ha.ok, hb.ok, meet_of_common ha hb h h']
  have h2 : a.has ⟨b.posX, b.posY⟩ = true → a.over b = true := fun h => by simp [Body.over, ha.ok, hb.ok, over_of_middle ha hb h]
  cases e1 : a.has p <;> cases e2 : b.has p <;> cases e3 : a.has ⟨b.posX, b.posY⟩ <;> simp_all
theorem pt_end {a : Body} {x y : Int} (ha : a.Made) (h1 : a.posX - a.w ≤ x ∧ x ≤ a.posX + a.w) (h2 : a.posY - a.h ≤ y ∧ y ≤ a.posY + a.h) (h : (x = a.posX) ∨ (y = a.posY)) : a.has ⟨x, y⟩ = true := by
  refine has_iff.2 ⟨ha.ok, h1, h2, fun hr => ?_⟩
  have e := ha.m.rd hr
  have s1 := sq_le (a := max (x - a.posX) (-(x - a.posX))) (b := a.w) (by omega) (by omega)
  have s2 := sq_le (a := max (y - a.posY) (-(y - a.posY))) (b := a.h) (by omega) (by omega)
  rw [sq_abs] at s1 s2
  simp only
  rcases h with h | h
  · rw [h, Int.sub_self, Int.zero_mul, e]; omega
  · rw [h, Int.sub_self, Int.zero_mul]; omega
theorem pt_out {a : Body} {x y : Int} (h : a.posX + a.w < x ∨ y < a.posY - a.h) : a.has ⟨x, y⟩ = false := by
  rw [Bool.eq_false_iff]
  intro e
  obtain ⟨-, h1, h2, -⟩ := has_iff.1 e
  simp only at h1 h2
  omega
end Go.Proofs.YtggcfjeehpcclaaDoor
