/- Plain laws: one round of the run. -/
import Derived.Test.YtggcfjeehpcclaaDoorY3
namespace Go.Proofs.YtggcfjeehpcclaaDoor
open Go.RowKit

theorem bodyMade_ok {a : Body} (ha : a.Made) : a.ok = true := by
  obtain ⟨a1, a2, a3, a4, a5, a6, a7, a8, a9⟩ := ha.m
  exact ok_iff.2 ⟨by rw [ha.i]; omega, by omega, by omega, by rw [ha.u]; omega, by rw [ha.v]; omega, by omega, by omega, a9, fun _ => ⟨ha.u, ha.v⟩⟩
theorem shift_ok {a : Body} (ha : a.Made) {x y : Int} (hx : -1100 ≤ a.posX + x ∧ a.posX + x ≤ 1100) (hy : -1100 ≤ a.posY + y ∧ a.posY + y ≤ 1100) : (a.shift x y).ok = true := by
  obtain ⟨a1, a2, a3, a4, a5, a6, a7, a8, a9⟩ := ha.m
  refine ok_iff.2 ⟨?_, ?_, ?_, ?_, ?_, ?_, ?_, ?_, ?_⟩ <;> simp only [Body.shift] <;> first
    | omega
    | (rw [ha.i]; omega)
    | (rw [ha.u]; omega)
    | (rw [ha.v]; omega)
    | exact a9
    | exact fun _ => ⟨ha.u, ha.v⟩

/-- What a body shows at a distance. -/
structure Shows (p b : Body) (d : Int) : Prop where
  over : p.over b = decide (d < 0)
  meets : p.meets b = decide (d ≤ 0)
  touch : p.touch b = decide (d = 0)
theorem shows_of {p b : Body} {d : Int} (hp : p.ok = true) (hb : b.ok = true) (h : p.far b = d) : Shows p b d := by
  refine ⟨?_, ?_, ?_⟩
  · unfold Body.over; rw [hp, hb, h]; simp
  · unfold Body.meets; rw [hp, hb, h]; simp
  · unfold Body.touch; rw [hp, hb, h]; simp

theorem run_x {a b : Body} (ha : a.Made) (hb : b.Made) {e : Int} (h0 : 0 ≤ e) (h1 : e ≤ 601) : (a.shift (b.posX - a.posX - e) 0).alike b (a.shift (b.posX - a.posX + e) 0) b = true ∧ Shows (a.shift (b.posX - a.posX - e) 0) b (runF a b false e) := by
  obtain ⟨a1, a2, a3, a4, a5, a6, a7, a8, a9⟩ := ha.m
  obtain ⟨b1, b2, b3, b4, b5, b6, b7, b8, b9⟩ := hb.m
  have o1 := shift_ok ha (x := b.posX - a.posX - e) (y := 0) (by omega) (by omega)
  have o2 := shift_ok ha (x := b.posX - a.posX + e) (y := 0) (by omega) (by omega)
  have o3 := bodyMade_ok hb
  have f1 : (a.shift (b.posX - a.posX - e) 0).far b = runF a b false e := by
    unfold Body.far farV Body.shift runF
    simp only
    rw [show max (a.posX + (b.posX - a.posX - e) - b.posX) (-(a.posX + (b.posX - a.posX - e) - b.posX)) = e from by omega, Int.add_zero]
  have f2 : (a.shift (b.posX - a.posX + e) 0).far b = runF a b false e := by
    unfold Body.far farV Body.shift runF
    simp only
    rw [show max (a.posX + (b.posX - a.posX + e) - b.posX) (-(a.posX + (b.posX - a.posX + e) - b.posX)) = e from by omega, Int.add_zero]
  exact ⟨alike_of o1 o3 o2 o3 (f1.trans f2.symm), shows_of o1 o3 f1⟩
theorem run_y {a b : Body} (ha : a.Made) (hb : b.Made) {e : Int} (h0 : 0 ≤ e) (h1 : e ≤ 601) : (a.shift 0 (b.posY - a.posY - e)).alike b (a.shift 0 (b.posY - a.posY + e)) b = true ∧ Shows (a.shift 0 (b.posY - a.posY - e)) b (runF a b true e) := by
  obtain ⟨a1, a2, a3, a4, a5, a6, a7, a8, a9⟩ := ha.m
  obtain ⟨b1, b2, b3, b4, b5, b6, b7, b8, b9⟩ := hb.m
  have o1 := shift_ok ha (x := 0) (y := b.posY - a.posY - e) (by omega) (by omega)
  have o2 := shift_ok ha (x := 0) (y := b.posY - a.posY + e) (by omega) (by omega)
  have o3 := bodyMade_ok hb
  have f1 : (a.shift 0 (b.posY - a.posY - e)).far b = runF a b true e := by
    unfold Body.far farV Body.shift runF
    simp only
    rw [show max (a.posY + (b.posY - a.posY - e) - b.posY) (-(a.posY + (b.posY - a.posY - e) - b.posY)) = e from by omega, Int.add_zero]
  have f2 : (a.shift 0 (b.posY - a.posY + e)).far b = runF a b true e := by
    unfold Body.far farV Body.shift runF
    simp only
    rw [show max (a.posY + (b.posY - a.posY + e) - b.posY) (-(a.posY + (b.posY - a.posY + e) - b.posY)) = e from by omega, Int.add_zero]
  exact ⟨alike_of o1 o3 o2 o3 (f1.trans f2.symm), shows_of o1 o3 f1⟩
theorem run_step {F : Int → Int} {e o n : Int} (L : RunLaw F) (h : RunInv F e o n) (he : e ≤ 601) :
    ((decide (F e < 0) = true ∧ decide (F e ≤ 0) = true ∧ decide (F e = 0) = false) ∧ o = e ∧ n = 0 ∧ RunInv F (e + 1) (o + 1) n) ∨ ((decide (F e < 0) = false ∧ decide (F e ≤ 0) = true ∧ decide (F e = 0) = true) ∧ (0 < o → o = e) ∧ (o = 0 → n = e) ∧ RunInv F (e + 1) o (n + 1)) ∨ ((decide (F e < 0) = false ∧ decide (F e ≤ 0) = false ∧ decide (F e = 0) = false) ∧ RunInv F (e + 1) o n) := by
  rcases Int.lt_trichotomy (F e) 0 with t | t | t
  · exact .inl ⟨⟨decide_eq_true (by omega), decide_eq_true (by omega), decide_eq_false (by omega)⟩, h.less L he t⟩
  · exact .inr (.inl ⟨⟨decide_eq_false (by omega), decide_eq_true (by omega), decide_eq_true (by omega)⟩, h.same L he t⟩)
  · exact .inr (.inr ⟨⟨decide_eq_false (by omega), decide_eq_false (by omega), decide_eq_false (by omega)⟩, h.more he t⟩)
end Go.Proofs.YtggcfjeehpcclaaDoor
