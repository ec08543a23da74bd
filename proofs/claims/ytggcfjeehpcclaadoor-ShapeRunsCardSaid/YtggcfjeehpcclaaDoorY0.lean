/- Plain laws: how bodies meet does not change under exchange, shift, mirror, turn. -/
import Derived.Test.YtggcfjeehpcclaaDoorX2
namespace Go.Proofs.YtggcfjeehpcclaaDoor
open Go.RowKit

theorem Body.eta (b : Body) : (⟨b.iD, b.posX, b.posY, b.velX, b.velY, b.w, b.h, b.round, b.fixed⟩ : Body) = b := rfl
theorem Vec.eta (b : Vec) : (⟨b.x, b.y⟩ : Vec) = b := rfl
theorem Form.eta (b : Form) : (⟨b.x, b.y, b.w, b.h, b.round⟩ : Form) = b := rfl
def Body.alike (a b c d : Body) : Bool := a.over b == c.over d && a.meets b == c.meets d && a.touch b == c.touch d
theorem alike_of {a b c d : Body} (ha : a.ok = true) (hb : b.ok = true) (hc : c.ok = true) (hd : d.ok = true) (h : a.far b = c.far d) : a.alike b c d = true := by
  unfold Body.alike Body.over Body.meets Body.touch
  rw [ha, hb, hc, hd, h]
  simp
theorem roomV_comm (p q : Int) (r : Bool) (p' q' : Int) (r' : Bool) (dx dy : Int) : roomV p q r p' q' r' dx dy = roomV p' q' r' p q r dx dy := by
  unfold roomV
  cases r <;> cases r' <;> simp only [Bool.false_eq_true, if_false, if_true]
  · omega
  · rw [Int.add_comm p p']
theorem far_comm (a b : Body) : a.far b = b.far a := by
  unfold Body.far farV
  rw [roomV_comm, show max (a.posX - b.posX) (-(a.posX - b.posX)) = max (b.posX - a.posX) (-(b.posX - a.posX)) from by omega, show max (a.posY - b.posY) (-(a.posY - b.posY)) = max (b.posY - a.posY) (-(b.posY - a.posY)) from by omega]
theorem far_shift (a b : Body) (x y : Int) : a.far b = (a.shift x y).far (b.shift x y) := by
  unfold Body.far farV Body.shift
  simp only
  rw [show a.posX + x - (b.posX + x) = a.posX - b.posX from by omega, show a.posY + y - (b.posY + y) = a.posY - b.posY from by omega]
def Body.mirror (b : Body) : Body := ⟨b.iD, -b.posX, b.posY, b.velX, b.velY, b.w, b.h, b.round, b.fixed⟩
def Body.turn (b : Body) : Body := ⟨b.iD, -b.posY, b.posX, b.velX, b.velY, b.h, b.w, b.round, b.fixed⟩
theorem far_mirror (a b : Body) : a.far b = a.mirror.far b.mirror := by
  unfold Body.far farV Body.mirror
  simp only
  rw [show max (a.posX - b.posX) (-(a.posX - b.posX)) = max (-a.posX - -b.posX) (-(-a.posX - -b.posX)) from by omega]
theorem roomV_turn (p q : Int) (r : Bool) (p' q' : Int) (r' : Bool) (dx dy : Int) (h : r = true → p = q) (h' : r' = true → p' = q') : roomV p q r p' q' r' dx dy = roomV q p r q' p' r' dy dx := by
  unfold roomV
  cases r <;> cases r' <;> simp only [Bool.false_eq_true, if_false, if_true]
  · omega
  · rw [h' rfl]; omega
  · rw [h rfl]; omega
  · rw [h rfl, h' rfl]; omega
theorem far_turn (a b : Body) (h : a.round = true → a.w = a.h) (h' : b.round = true → b.w = b.h) : a.far b = a.turn.far b.turn := by
  unfold Body.far farV Body.turn
  simp only
  rw [roomV_turn _ _ _ _ _ _ _ _ h h', show max (a.posY - b.posY) (-(a.posY - b.posY)) = max (-a.posY - -b.posY) (-(-a.posY - -b.posY)) from by omega]

/-- A body of the kind that Made makes. -/
structure Body.Made (b : Body) : Prop where
  m : MadeOk b.posX b.posY b.w b.h b.round
  i : b.iD = 0
  u : b.velX = 0
  v : b.velY = 0
  f : b.fixed = false
theorem Form.made (f : Form) : f.body.Made := ⟨f.body_ok, rfl, rfl, rfl, rfl⟩
theorem ok_iff {b : Body} : b.ok = true ↔ (0 ≤ b.iD ∧ b.iD ≤ 65536) ∧ (-1048576 ≤ b.posX ∧ b.posX ≤ 1048576) ∧ (-1048576 ≤ b.posY ∧ b.posY ≤ 1048576) ∧ (-4096 ≤ b.velX ∧ b.velX ≤ 4096) ∧ (-4096 ≤ b.velY ∧ b.velY ≤ 4096) ∧ (1 ≤ b.w ∧ b.w ≤ 16384) ∧ (1 ≤ b.h ∧ b.h ≤ 16384) ∧ (b.round = true → b.w = b.h) ∧ (b.fixed = true → b.velX = 0 ∧ b.velY = 0) := by
  unfold Body.ok
  rw [vldB_iff]
theorem far_self (b : Body) (hb : b.Made) : b.far b < 0 := by
  have := hb.m.p1
  have := hb.m.q1
  unfold Body.far farV roomV
  rw [show max (b.posX - b.posX) (-(b.posX - b.posX)) = 0 from by omega, show max (b.posY - b.posY) (-(b.posY - b.posY)) = 0 from by omega]
  split
  · have h1 : 0 < (b.w + b.w) * (b.w + b.w) := Int.mul_pos (by omega) (by omega)
    omega
  · omega
end Go.Proofs.YtggcfjeehpcclaaDoor
