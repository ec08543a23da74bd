/- Where a segment meets a body (the reference's way). Where: boxes; the contracts. The reference's Where is the program's. -/
import Derived.Test.YtcojfohjdibjjaaGreatDoorP6
import Derived.Test.YtcojfohjdibjjaaGreatDoorV0
namespace Go.Proofs.YtcojfohjdibjjaaGreatDoor
open Go.RowKit

/-- Does Where give no place at all? -/
def whN (b : Body) (p q : Vec) : Bool := match b.round with
  | false => enterN b.low b.high p q
  | true => match decide (segC b p ≤ 0) with
    | true => false
    | false => decide (segA p q = 0) || decide (segS b p q < 0)
def whR (b : Body) (p q : Vec) : Plc × Bool := match b.round with
  | false => enterP b.low b.high p q
  | true => match decide (segC b p ≤ 0) with
    | true => (atP 0 1, true)
    | false => (⟨segH b p q, segS b p q, segA p q⟩, decide (0 ≤ refC ⟨segH b p q, segS b p q, segA p q⟩ (atP 0 1)) && decide (refC ⟨segH b p q, segS b p q, segA p q⟩ (atP 1 1) ≤ 0))
def whS (b : Body) (p q : Vec) : SV := match whN b p q with
  | true => .tup [nilP, .bl false]
  | false => .tup [plS (whR b p q).1, .v (.bool (whR b p q).2)]
def nilC : List SV := [.v (.pointer none), .v (.pointer none), .v (.pointer none)]
def whH (b : Body) : Heap := [(0, .lay b.cells 25), (1, .lay nilC 58)]
def wh6 (b : Body) (dx dy cx cy A : Int) : Cut := ⟨Unit, fun _ => True, fun _ => ⟨[sl 3 (.p 0 0), sl 6 (.p 1 0), sl 10 (zS dx), sl 11 (zS dy), sl 12 (zS cx), sl 13 (zS cy), sl 14 (zS A)], whH b, 2, 0, [], []⟩, fun _ => 0⟩
def wh7 (b : Body) (cx cy A H : Int) : Cut := ⟨Unit, fun _ => True, fun _ => ⟨[sl 3 (.p 0 0), sl 6 (.p 1 0), sl 12 (zS cx), sl 13 (zS cy), sl 14 (zS A), sl 15 (zS H)], whH b, 2, 0, [], []⟩, fun _ => 0⟩
def wh8 (b : Body) (A H C : Int) : Cut := ⟨Unit, fun _ => True, fun _ => ⟨[sl 6 (.p 1 0), sl 14 (zS A), sl 15 (zS H), sl 16 (zS C)], whH b, 2, 0, [], []⟩, fun _ => 0⟩
def wh11 (b : Body) (A H S : Int) : Cut := ⟨Unit, fun _ => True, fun _ => ⟨[sl 6 (.p 1 0), sl 14 (zS A), sl 15 (zS H), sl 17 (zS S)], whH b, 2, 0, [], []⟩, fun _ => 0⟩
noncomputable def whC (c : Con cx) : List (Con cx) := [c, conRBounds, conNum, conTimes, conIAdd, conISign, conRAt, conCompare, conNAdd, conNSub, conNCmp]
def whHow : How := ⟨[160007, 14], [6, 7, 8, 11], [], 0⟩
theorem cmp_z0 (x : Int) : decide (cmpI x 0 = 0) = decide (x = 0) := by unfold cmpI; grind
theorem cmp_zl (x : Int) : decide (cmpI x 0 < 0) = decide (x < 0) := by unfold cmpI; grind

set_option maxHeartbeats 8000000 in
set_option maxRecDepth 8000 in
theorem Where_round {b : Body} {p q : Vec} (hb : b.ok = true) (hr : b.round = true) (hp : p.In) (hq : q.In) (hs : shortB p q = true) : evFn (C := cx) (whC conAreaY) [inSub] 1 whHow Tryz.f25 ((rds3 rdBody rdVec rdVec).enc (b, p, q)) fun v H _ => resOut (whS b p q) H v := by
  obtain ⟨-, h1, h2, h3, h4, -⟩ := Body.Ok.of hb
  obtain ⟨c1, c2⟩ := hp
  obtain ⟨d1, d2⟩ := hq
  obtain ⟨t1, t2⟩ := short_of hs
  have s0 : Sml 0 := ⟨by decide, by decide⟩
  have s1 : Sml 1 := ⟨by decide, by decide⟩
  refine And.intro (fun hz => ?_) (fun _ => ?_)
  · have hz : (!b.round) = true := hz
    rw [hr] at hz; exact absurd hz (by decide)
  refine And.intro (⟨by omega, by omega⟩ : -9223372036854775808 ≤ (q.x - p.x) ∧ (q.x - p.x) ≤ 9223372036854775807) ?_
  refine And.intro (⟨by omega, by omega⟩ : -9223372036854775807 ≤ (q.x - p.x) ∧ (q.x - p.x) ≤ 9223372036854775807) ?_
  refine And.intro (⟨by omega, by omega⟩ : -9223372036854775808 ≤ (q.y - p.y) ∧ (q.y - p.y) ≤ 9223372036854775807) ?_
  refine And.intro (⟨by omega, by omega⟩ : -9223372036854775807 ≤ (q.y - p.y) ∧ (q.y - p.y) ≤ 9223372036854775807) ?_
  refine And.intro (⟨by omega, by omega⟩ : -9223372036854775808 ≤ (b.posX - p.x) ∧ (b.posX - p.x) ≤ 9223372036854775807) ?_
  refine And.intro (⟨by omega, by omega⟩ : -9223372036854775807 ≤ (b.posX - p.x) ∧ (b.posX - p.x) ≤ 9223372036854775807) ?_
  refine And.intro (⟨by omega, by omega⟩ : -9223372036854775808 ≤ (b.posY - p.y) ∧ (b.posY - p.y) ≤ 9223372036854775807) ?_
  refine And.intro (⟨by omega, by omega⟩ : -9223372036854775807 ≤ (b.posY - p.y) ∧ (b.posY - p.y) ≤ 9223372036854775807) ?_
  have wx : Bw 14 (q.x - p.x) := (show Int.natAbs (q.x - p.x) < 2 ^ 14 by have : (2 : Nat) ^ 14 = 16384 := rfl; omega)
  have wy : Bw 14 (q.y - p.y) := (show Int.natAbs (q.y - p.y) < 2 ^ 14 by have : (2 : Nat) ^ 14 = 16384 := rfl; omega)
  have vx : Bw 22 (b.posX - p.x) := (show Int.natAbs (b.posX - p.x) < 2 ^ 22 by have : (2 : Nat) ^ 22 = 4194304 := rfl; omega)
  have vy : Bw 22 (b.posY - p.y) := (show Int.natAbs (b.posY - p.y) < 2 ^ 22 by have : (2 : Nat) ^ 22 = 4194304 := rfl; omega)
  have bx := bdz (wx.bd (by decide))
  have bY := bdz (wy.bd (by decide))
  have bu := bdz (vx.bd (by decide))
  have bv := bdz (vy.bd (by decide))
  have sg : segA p q = (q.x - p.x) * (q.x - p.x) + (q.y - p.y) * (q.y - p.y) := rfl
  have eXX : (zV (zS (q.x - p.x)) * zV (zS (q.x - p.x))) = (q.x - p.x) * (q.x - p.x) := by rw [zV_zS]
  have wXX : Bw 300 (zV (zS (zV (zS (q.x - p.x)) * zV (zS (q.x - p.x))))) := by rw [zV_zS, eXX]; exact (wx.mul wx).mono (by decide)
  have eYY : (zV (zS (q.y - p.y)) * zV (zS (q.y - p.y))) = (q.y - p.y) * (q.y - p.y) := by rw [zV_zS]
  have wYY : Bw 300 (zV (zS (zV (zS (q.y - p.y)) * zV (zS (q.y - p.y))))) := by rw [zV_zS, eYY]; exact (wy.mul wy).mono (by decide)
  have eHX : (zV (zS (q.x - p.x)) * zV (zS (b.posX - p.x))) = (q.x - p.x) * (b.posX - p.x) := by rw [zV_zS, zV_zS]
  have wHX : Bw 300 (zV (zS (zV (zS (q.x - p.x)) * zV (zS (b.posX - p.x))))) := by rw [zV_zS, eHX]; exact (wx.mul vx).mono (by decide)
  have eHY : (zV (zS (q.y - p.y)) * zV (zS (b.posY - p.y))) = (q.y - p.y) * (b.posY - p.y) := by rw [zV_zS, zV_zS]
  have wHY : Bw 300 (zV (zS (zV (zS (q.y - p.y)) * zV (zS (b.posY - p.y))))) := by rw [zV_zS, eHY]; exact (wy.mul vy).mono (by decide)
  have eCX : (zV (zS (b.posX - p.x)) * zV (zS (b.posX - p.x))) = (b.posX - p.x) * (b.posX - p.x) := by rw [zV_zS]
  have wCX : Bw 300 (zV (zS (zV (zS (b.posX - p.x)) * zV (zS (b.posX - p.x))))) := by rw [zV_zS, eCX]; exact (vx.mul vx).mono (by decide)
  have eCY : (zV (zS (b.posY - p.y)) * zV (zS (b.posY - p.y))) = (b.posY - p.y) * (b.posY - p.y) := by rw [zV_zS]
  have wCY : Bw 300 (zV (zS (zV (zS (b.posY - p.y)) * zV (zS (b.posY - p.y))))) := by rw [zV_zS, eCY]; exact (vy.mul vy).mono (by decide)
  refine Exists.intro (wh6 b (q.x - p.x) (q.y - p.y) (b.posX - p.x) (b.posY - p.y) (segA p q)) ?_
  refine And.intro ?_ ?_
  · refine And.intro ⟨zz _, zz _, bx, bx⟩ ?_
    refine And.intro ⟨zz _, zz _, bY, bY⟩ ?_
    refine And.intro ⟨zz _, zz _, wXX, wYY⟩ ?_
    have e : segA p q = zV (zS (zV (zS (q.x - p.x)) * zV (zS (q.x - p.x)))) + zV (zS (zV (zS (q.y - p.y)) * zV (zS (q.y - p.y)))) := by simp only [zV_zS]; rfl
    refine ⟨(), [(1, 3)], [.freeze 6], trivial, trivial, ?_⟩
    repeat' (first | exact congrArg (fun z : Int => decide (z < 0)) e | exact congrArg (fun z : Int => (natF z.natAbs).n) e | exact rfl | (refine And.intro ?_ ?_) | (intro _))
    rename_i i _
    exact congrArg (fun z : Int => (natF z.natAbs).g i) e
  refine fun _ _ => ?_
  refine Exists.intro (wh7 b (b.posX - p.x) (b.posY - p.y) (segA p q) (segH b p q)) ?_
  refine And.intro ?_ ?_
  · refine And.intro ⟨zz _, zz _, bx, bu⟩ ?_
    refine And.intro ⟨zz _, zz _, bY, bv⟩ ?_
    refine And.intro ⟨zz _, zz _, wHX, wHY⟩ ?_
    have e : segH b p q = zV (zS (zV (zS (q.x - p.x)) * zV (zS (b.posX - p.x)))) + zV (zS (zV (zS (q.y - p.y)) * zV (zS (b.posY - p.y)))) := by simp only [zV_zS]; rfl
    refine ⟨(), [], [.freeze 2], trivial, trivial, ?_⟩
    repeat' (first | exact congrArg (fun z : Int => decide (z < 0)) e | exact congrArg (fun z : Int => (natF z.natAbs).n) e | exact rfl | (refine And.intro ?_ ?_) | (intro _))
    rename_i i _
    exact congrArg (fun z : Int => (natF z.natAbs).g i) e
  refine fun _ _ => ?_
  refine Exists.intro (wh8 b (segA p q) (segH b p q) (segC b p)) ?_
  have hw : 0 ≤ b.w * b.w ∧ b.w * b.w ≤ 268435456 := sq_bd (a := 16384) (by omega)
  refine And.intro ?_ ?_
  · refine And.intro ⟨zz _, zz _, bu, bu⟩ ?_
    refine And.intro ⟨zz _, zz _, bv, bv⟩ ?_
    refine And.intro ⟨zz _, zz _, wCX, wCY⟩ ?_
    refine And.intro (⟨by omega, by omega⟩ : -9223372036854775808 ≤ b.w * b.w ∧ b.w * b.w ≤ 9223372036854775807) ?_
    refine And.intro (⟨by omega, by omega⟩ : -9223372036854775807 ≤ b.w * b.w ∧ b.w * b.w ≤ 9223372036854775807) ?_
    have hD : (zV (zS (zV (zS (b.posX - p.x)) * zV (zS (b.posX - p.x)))) + zV (zS (zV (zS (b.posY - p.y)) * zV (zS (b.posY - p.y))))) - b.w * b.w = segC b p := by simp only [zV_zS]; rfl
    have nX : (natF ((zV (zS (zV (zS (b.posX - p.x)) * zV (zS (b.posX - p.x)))) + zV (zS (zV (zS (b.posY - p.y)) * zV (zS (b.posY - p.y)))))).natAbs).Nat := by rw [show (zV (zS (zV (zS (b.posX - p.x)) * zV (zS (b.posX - p.x)))) + zV (zS (zV (zS (b.posY - p.y)) * zV (zS (b.posY - p.y))))) = (b.posX - p.x) * (b.posX - p.x) + (b.posY - p.y) * (b.posY - p.y) by simp only [zV_zS]]; exact ((vx.mul vx).add (vy.mul vy)).nat (by decide)
    have nY : (natF (b.w * b.w).natAbs).Nat := (show Bw 40 _ by show (b.w * b.w).natAbs < 2 ^ 40; have : (2 : Nat) ^ 40 = 1099511627776 := rfl; omega).nat (by decide)
    refine And.intro (fun h1 => ?_) (fun h1 => ?_)
    · have h1 : (decide ((zV (zS (zV (zS (b.posX - p.x)) * zV (zS (b.posX - p.x)))) + zV (zS (zV (zS (b.posY - p.y)) * zV (zS (b.posY - p.y))))) < 0) != decide (b.w * b.w < 0)) = true := h1
      refine And.intro ⟨fun _ _ => trivial, fun _ _ => trivial, rfl, nX, nY⟩ ?_
      have g : Sgn (segC b p) _ _ := hD ▸ sub1 (X := (zV (zS (zV (zS (b.posX - p.x)) * zV (zS (b.posX - p.x)))) + zV (zS (zV (zS (b.posY - p.y)) * zV (zS (b.posY - p.y)))))) (Y := b.w * b.w) h1 rfl
      refine ⟨(), [], [.freeze 2], trivial, trivial, ?_⟩
      repeat' (first | exact rfl | (refine And.intro ?_ ?_) | (intro _))
      · exact g.2
      · exact congrArg (fun z => (natF z).n) g.1.symm
      · rename_i i _
        exact congrArg (fun z => (natF z).g i) g.1.symm
    have h1 : (decide ((zV (zS (zV (zS (b.posX - p.x)) * zV (zS (b.posX - p.x)))) + zV (zS (zV (zS (b.posY - p.y)) * zV (zS (b.posY - p.y))))) < 0) != decide (b.w * b.w < 0)) = false := h1
    refine And.intro ⟨fun _ _ => trivial, fun _ _ => trivial, nX, nY⟩ ?_
    refine And.intro (fun h2 => ?_) (fun h2 => ?_)
    · have h2 : 0 ≤ cmpI (natF ((zV (zS (zV (zS (b.posX - p.x)) * zV (zS (b.posX - p.x)))) + zV (zS (zV (zS (b.posY - p.y)) * zV (zS (b.posY - p.y)))))).natAbs).val (natF (b.w * b.w).natAbs).val := of_decide_eq_true h2
      refine And.intro ⟨fun _ _ => trivial, fun _ _ => trivial, rfl, nX, nY, cmp_ge h2⟩ ?_
      have g : Sgn (segC b p) _ _ := hD ▸ sub2 (X := (zV (zS (zV (zS (b.posX - p.x)) * zV (zS (b.posX - p.x)))) + zV (zS (zV (zS (b.posY - p.y)) * zV (zS (b.posY - p.y)))))) (Y := b.w * b.w) h1 h2 rfl
      refine ⟨(), [], [.freeze 2], trivial, trivial, ?_⟩
      repeat' (first | exact rfl | (refine And.intro ?_ ?_) | (intro _))
      · exact g.2
      · exact congrArg (fun z => (natF z).n) g.1.symm
      · rename_i i _
        exact congrArg (fun z => (natF z).g i) g.1.symm
    · have h2 : ¬ 0 ≤ cmpI (natF ((zV (zS (zV (zS (b.posX - p.x)) * zV (zS (b.posX - p.x)))) + zV (zS (zV (zS (b.posY - p.y)) * zV (zS (b.posY - p.y)))))).natAbs).val (natF (b.w * b.w).natAbs).val := of_decide_eq_false h2
      refine And.intro ⟨fun _ _ => trivial, fun _ _ => trivial, rfl, nY, nX, cmp_le h2⟩ ?_
      have g : Sgn (segC b p) _ _ := hD ▸ sub3 (X := (zV (zS (zV (zS (b.posX - p.x)) * zV (zS (b.posX - p.x)))) + zV (zS (zV (zS (b.posY - p.y)) * zV (zS (b.posY - p.y)))))) (Y := b.w * b.w) h1 h2 rfl
      refine ⟨(), [], [.freeze 2], trivial, trivial, ?_⟩
      repeat' (first | exact rfl | (refine And.intro ?_ ?_) | (intro _))
      · exact g.2
      · exact congrArg (fun z => (natF z).n) g.1.symm
      · rename_i i _
        exact congrArg (fun z => (natF z).g i) g.1.symm
  refine fun _ _ => ?_
  refine And.intro (zz (segC b p)) ?_
  refine And.intro (fun hc => ?_) (fun hc => ?_)
  · have hc : decide (sigI (zV (zS (segC b p))) ≤ 0) = true := hc
    rw [zV_zS, sigI_eq] at hc
    have hc : decide (segC b p ≤ 0) = true := decide_eq_true (cmpI_le.1 (of_decide_eq_true hc))
    have en : whN b p q = false := by unfold whN; rw [hr, hc]
    have er : whR b p q = (atP 0 1, true) := by unfold whR; rw [hr, hc]
    have es : whS b p q = .tup [plS (atP 0 1), .v (.bool true)] := by unfold whS; rw [en, er]
    simp only [es]
    refine And.intro ⟨s0, s1⟩ ?_
    repeat' (first | exact rfl | (refine And.intro ?_ ?_) | (intro _))
    all_goals skip
  have hc : decide (sigI (zV (zS (segC b p))) ≤ 0) = false := hc
  rw [zV_zS, sigI_eq] at hc
  have hc : decide (segC b p ≤ 0) = false := decide_eq_false fun k => of_decide_eq_false hc (cmpI_le.2 k)
  have wA : Bw 29 (segA p q) := (wx.mul wx).add (wy.mul wy)
  have wH : Bw 37 (segH b p q) := (wx.mul vx).add (wy.mul vy)
  have wC : Bw 46 (segC b p) := ((vx.mul vx).add (vy.mul vy)).sub (show Bw 45 _ by show (b.w * b.w).natAbs < 2 ^ 45; have : (2 : Nat) ^ 45 = 35184372088832 := rfl; omega)
  have wSS : Bw 80 (segS b p q) := (((wH.mul wH).mono (by decide : 37 + 37 ≤ 75)).sub (wA.mul wC)).mono (by decide)
  have eHH : (zV (zS (segH b p q)) * zV (zS (segH b p q))) = segH b p q * segH b p q := by rw [zV_zS]
  have eAC : (zV (zS (segA p q)) * zV (zS (segC b p))) = segA p q * segC b p := by rw [zV_zS, zV_zS]
  refine Exists.intro (wh11 b (segA p q) (segH b p q) (segS b p q)) ?_
  refine And.intro ?_ ?_
  · refine And.intro ⟨zz _, zz _, bdz (wH.bd (by decide)), bdz (wH.bd (by decide))⟩ ?_
    refine And.intro ⟨zz _, zz _, bdz (wA.bd (by decide)), bdz (wC.bd (by decide))⟩ ?_
    have hD : zV (zS (segH b p q)) * zV (zS (segH b p q)) - zV (zS (segA p q)) * zV (zS (segC b p)) = segS b p q := by simp only [zV_zS]; rfl
    have nX : (natF (zV (zS (segH b p q)) * zV (zS (segH b p q))).natAbs).Nat := by rw [eHH]; exact (wH.mul wH).nat (by decide)
    have nY : (natF (zV (zS (segA p q)) * zV (zS (segC b p))).natAbs).Nat := by rw [eAC]; exact (wA.mul wC).nat (by decide)
    refine And.intro (fun h1 => ?_) (fun h1 => ?_)
    · have h1 : (decide (zV (zS (segH b p q)) * zV (zS (segH b p q)) < 0) != decide (zV (zS (segA p q)) * zV (zS (segC b p)) < 0)) = true := h1
      refine And.intro ⟨fun _ _ => trivial, fun _ _ => trivial, rfl, nX, nY⟩ ?_
      have g : Sgn (segS b p q) _ _ := hD ▸ sub1 (X := zV (zS (segH b p q)) * zV (zS (segH b p q))) (Y := zV (zS (segA p q)) * zV (zS (segC b p))) h1 rfl
      refine ⟨(), [], [.freeze 2], trivial, trivial, ?_⟩
      repeat' (first | exact rfl | (refine And.intro ?_ ?_) | (intro _))
      · exact g.2
      · exact congrArg (fun z => (natF z).n) g.1.symm
      · rename_i i _
        exact congrArg (fun z => (natF z).g i) g.1.symm
    have h1 : (decide (zV (zS (segH b p q)) * zV (zS (segH b p q)) < 0) != decide (zV (zS (segA p q)) * zV (zS (segC b p)) < 0)) = false := h1
    refine And.intro ⟨fun _ _ => trivial, fun _ _ => trivial, nX, nY⟩ ?_
    refine And.intro (fun h2 => ?_) (fun h2 => ?_)
    · have h2 : 0 ≤ cmpI (natF (zV (zS (segH b p q)) * zV (zS (segH b p q))).natAbs).val (natF (zV (zS (segA p q)) * zV (zS (segC b p))).natAbs).val := of_decide_eq_true h2
      refine And.intro ⟨fun _ _ => trivial, fun _ _ => trivial, rfl, nX, nY, cmp_ge h2⟩ ?_
      have g : Sgn (segS b p q) _ _ := hD ▸ sub2 (X := zV (zS (segH b p q)) * zV (zS (segH b p q))) (Y := zV (zS (segA p q)) * zV (zS (segC b p))) h1 h2 rfl
      refine ⟨(), [], [.freeze 2], trivial, trivial, ?_⟩
      repeat' (first | exact rfl | (refine And.intro ?_ ?_) | (intro _))
      · exact g.2
      · exact congrArg (fun z => (natF z).n) g.1.symm
      · rename_i i _
        exact congrArg (fun z => (natF z).g i) g.1.symm
    · have h2 : ¬ 0 ≤ cmpI (natF (zV (zS (segH b p q)) * zV (zS (segH b p q))).natAbs).val (natF (zV (zS (segA p q)) * zV (zS (segC b p))).natAbs).val := of_decide_eq_false h2
      refine And.intro ⟨fun _ _ => trivial, fun _ _ => trivial, rfl, nY, nX, cmp_le h2⟩ ?_
      have g : Sgn (segS b p q) _ _ := hD ▸ sub3 (X := zV (zS (segH b p q)) * zV (zS (segH b p q))) (Y := zV (zS (segA p q)) * zV (zS (segC b p))) h1 h2 rfl
      refine ⟨(), [], [.freeze 2], trivial, trivial, ?_⟩
      repeat' (first | exact rfl | (refine And.intro ?_ ?_) | (intro _))
      · exact g.2
      · exact congrArg (fun z => (natF z).n) g.1.symm
      · rename_i i _
        exact congrArg (fun z => (natF z).g i) g.1.symm
  refine fun _ _ => ?_
  refine And.intro (zz (segA p q)) ?_
  refine And.intro (fun _ => zz (segS b p q)) ?_
  refine And.intro (fun h5 => ?_) (fun h5 => ?_)
  · have h5 : (decide (sigI (zV (zS (segA p q))) = 0) || decide (sigI (zV (zS (segS b p q))) < 0)) = true := h5
    rw [zV_zS, zV_zS, sigI_eq, sigI_eq, cmp_z0, cmp_zl] at h5
    have en : whN b p q = true := by unfold whN; rw [hr, hc]; exact h5
    have es : whS b p q = .tup [nilP, .bl false] := by unfold whS; rw [en]
    simp only [es]
    repeat' (first | exact rfl | (refine And.intro ?_ ?_) | (intro _))
  have h5 : (decide (sigI (zV (zS (segA p q))) = 0) || decide (sigI (zV (zS (segS b p q))) < 0)) = false := h5
  rw [zV_zS, zV_zS, sigI_eq, sigI_eq, cmp_z0, cmp_zl] at h5
  have en : whN b p q = false := by unfold whN; rw [hr, hc]; exact h5
  have hS : 0 ≤ segS b p q := by
    rw [Bool.or_eq_false_iff] at h5
    have := of_decide_eq_false h5.2
    omega
  have wP : PlB ⟨segH b p q, segS b p q, segA p q⟩ := ⟨wH.mono (by decide), ⟨hS, wSS⟩, wA.mono (by decide)⟩
  have es : whS b p q = .tup [plS ⟨segH b p q, segS b p q, segA p q⟩, .v (.bool (decide (0 ≤ refC ⟨segH b p q, segS b p q, segA p q⟩ (atP 0 1)) && decide (refC ⟨segH b p q, segS b p q, segA p q⟩ (atP 1 1) ≤ 0)))] := by unfold whS whR; rw [en, hr, hc]
  simp only [es]
  have pv : plS ⟨segH b p q, segS b p q, segA p q⟩ = plS (plV (plS ⟨segH b p q, segS b p q, segA p q⟩)) := plV_of _
  have pb : PlB (plV (plS ⟨segH b p q, segS b p q, segA p q⟩)) := by rw [plV_plS]; exact wP
  refine And.intro ⟨s0, s1⟩ ?_
  refine And.intro ⟨pv, plV_of (atP 0 1), pb, Rb.z.v⟩ ?_
  refine And.intro (fun _ => ⟨s1, s1⟩) ?_
  refine And.intro (fun _ => ⟨pv, plV_of (atP 1 1), pb, Rb.o.v⟩) ?_
  have ec : (decide (0 ≤ refC ⟨segH b p q, segS b p q, segA p q⟩ (atP 0 1)) && decide (refC ⟨segH b p q, segS b p q, segA p q⟩ (atP 1 1) ≤ 0)) = (decide (0 ≤ refC (plV (plS ⟨segH b p q, segS b p q, segA p q⟩)) (plV (plS (atP 0 1)))) && decide (refC (plV (plS ⟨segH b p q, segS b p q, segA p q⟩)) (plV (plS (atP 1 1))) ≤ 0)) := by rw [plV_plS, plV_plS, plV_plS]
  repeat' (first | exact ec | exact rfl | (refine And.intro ?_ ?_) | (intro _))
  all_goals skip
end Go.Proofs.YtcojfohjdibjjaaGreatDoor
namespace Go.Proofs.YtcojfohjdibjjaaGreatDoor
open Go.RowKit

set_option maxHeartbeats 4000000 in
set_option maxRecDepth 8000 in
theorem Where_boxY {b : Body} {p q : Vec} (hr : b.round = false) (hp : p.In) (hq : q.In) (hn : whN b p q = false) : evFn (C := cx) (whC conAreaY) [inSub] 1 whHow Tryz.f25 ((rds3 rdBody rdVec rdVec).enc (b, p, q)) fun v H _ => resOut (whS b p q) H v := by
  refine And.intro (fun _ => ?_) (fun hz => ?_)
  · have en : enterN b.low b.high p q = false := by unfold whN at hn; rw [hr] at hn; exact hn
    have es : whS b p q = .tup [plS (enterP b.low b.high p q).1, .v (.bool (enterP b.low b.high p q).2)] := by unfold whS whR; rw [hn, hr]
    simp only [es]
    refine And.intro ⟨low_in b, high_in b, hp, hq, en⟩ ?_
    repeat' (first | exact rfl | (refine And.intro ?_ ?_) | (intro _))
  · have hz : (!b.round) = false := hz
    rw [hr] at hz; exact absurd hz (by decide)
set_option maxHeartbeats 4000000 in
set_option maxRecDepth 8000 in
theorem Where_boxN {b : Body} {p q : Vec} (hr : b.round = false) (hp : p.In) (hq : q.In) (hn : whN b p q = true) : evFn (C := cx) (whC conAreaN) [inSub] 1 whHow Tryz.f25 ((rds3 rdBody rdVec rdVec).enc (b, p, q)) fun v H _ => resOut (whS b p q) H v := by
  refine And.intro (fun _ => ?_) (fun hz => ?_)
  · have en : enterN b.low b.high p q = true := by unfold whN at hn; rw [hr] at hn; exact hn
    have es : whS b p q = .tup [nilP, .bl false] := by unfold whS; rw [hn]
    simp only [es]
    refine And.intro ⟨low_in b, high_in b, hp, hq, en⟩ ?_
    repeat' (first | exact rfl | (refine And.intro ?_ ?_) | (intro _))
  · have hz : (!b.round) = false := hz
    rw [hr] at hz; exact absurd hz (by decide)
def whPre (c : Bool) (a : Body × Vec × Vec) : List Prop := [a.1.ok = true, a.2.1.In, a.2.2.In, shortB a.2.1 a.2.2 = true, whN a.1 a.2.1 a.2.2 = c]
def whY (a : Body × Vec × Vec) : SV := .tup [plS (whR a.1 a.2.1 a.2.2).1, .v (.bool (whR a.1 a.2.1 a.2.2).2)]
theorem whS_Y {b : Body} {p q : Vec} (h : whN b p q = false) : whS b p q = whY (b, p, q) := by unfold whS whY; rw [h]
theorem whS_N {b : Body} {p q : Vec} (h : whN b p q = true) : whS b p q = .tup [nilP, .bl false] := by unfold whS; rw [h]
noncomputable def conWhereY : Con cx := walkCon 25 Tryz.call25 (rds3 rdBody rdVec rdVec) (whPre false) whY (fun _ => whHow) [160007, 14] (fun _ => rfl) follows Tryz.func25 (by kernel_rfl) (fun ⟨b, p, q⟩ ⟨h1, h2, h3, h4, h5⟩ => by
    have h5 : whN b p q = false := h5
    have : evFn (C := cx) (whC conAreaY) [inSub] 1 whHow Tryz.f25 ((rds3 rdBody rdVec rdVec).enc (b, p, q)) fun v H _ => resOut (whS b p q) H v := by
      cases hr : b.round with
      | true => exact Where_round h1 hr h2 h3 h4
      | false => exact Where_boxY hr h2 h3 h5
    rw [whS_Y h5] at this
    exact this)
noncomputable def conWhereN : Con cx := walkCase (Γ := whC conAreaY) (Fs := [inSub]) (d := 1) (Γ' := whC conAreaN) (Fs' := [inSub]) (d' := 1) 25 Tryz.call25 (rds3 rdBody rdVec rdVec) (whPre true) (fun _ => .tup [nilP, .bl false]) (fun a => a.1.round) whHow whHow follows Tryz.func25 (by kernel_rfl) (by kernel_rfl) (fun ⟨b, p, q⟩ ⟨h1, h2, h3, h4, h5⟩ hr => by
    have h5 : whN b p q = true := h5
    have := Where_round h1 hr h2 h3 h4
    rw [whS_N h5] at this
    exact this) (fun ⟨b, p, q⟩ ⟨h1, h2, h3, h4, h5⟩ hr => by
    have h5 : whN b p q = true := h5
    have := Where_boxN hr h2 h3 h5
    rw [whS_N h5] at this
    exact this)
end Go.Proofs.YtcojfohjdibjjaaGreatDoor
namespace Go.Proofs.YtcojfohjdibjjaaGreatDoor
open Go.RowKit

theorem enterN_no {low high p q : Vec} (h : enterN low high p q = true) : (enterP low high p q).2 = false := by
  unfold enterN at h
  unfold enterP
  split at h
  · rename_i e; rw [e]
  · rename_i x e
    rw [e]
    simp only
    split at h
    · rename_i e; rw [e]
    · cases h
theorem disc_in {b : Body} {p q : Vec} {a c : Int} (hb : b.ok = true) (hr : b.round = true) (hc : 0 < c) (h : quad b p q a c ≤ 0) : Inb b p q a c := ⟨disc_slabs hb hr hc h, fun _ => h⟩
theorem met_ent {b : Body} {p q : Vec} (h : (whereP b p q).2 = true) : (b.ent p q).2 = true := by
  cases e : (b.ent p q).2 with
  | true => rfl
  | false =>
    unfold whereP at h
    rw [e] at h
    simp only [Bool.not_false, Bool.true_or] at h
    rw [e] at h
    cases h
/-- The circle's own way, where its bounds are met. -/
theorem where_circle {b : Body} {p q : Vec} (hr : b.round = true) (he : (b.ent p q).2 = true) : whereP b p q = match decide (segC b p ≤ 0) with
    | true => (⟨0, 0, 1⟩, true)
    | false => match apart b p q with
      | true => (⟨0, 0, 0⟩, false)
      | false => (⟨segH b p q, segS b p q, segA p q⟩, decide (ordP ⟨segH b p q, segS b p q, segA p q⟩ ⟨1, 0, 1⟩ ≤ 0)) := by
  unfold whereP
  rw [he, hr]
  rfl
theorem ref_z {w : Plc} (hs : 0 ≤ w.s) (hm : 0 < w.m) : refC w (atP 0 1) = ordP w ⟨0, 0, 1⟩ := refC_eq (b := ⟨0, 0, 1⟩) hs (by decide) hm (by decide) (fun _ h => absurd rfl h)
theorem ref_o {w : Plc} (hs : 0 ≤ w.s) (hm : 0 < w.m) : refC w (atP 1 1) = ordP w ⟨1, 0, 1⟩ := refC_eq (b := ⟨1, 0, 1⟩) hs (by decide) hm (by decide) (fun _ h => absurd rfl h)
/-- What is met on the way is met in its part: a point at which the circle is. -/
theorem circle_in {b : Body} {p q : Vec} (hb : b.ok = true) (hr : b.round = true) (hA : segA p q ≠ 0) (hS : 0 ≤ segS b p q)
    (h0 : ¬ (Plc.mk (segH b p q) (segS b p q) (segA p q)).lt 0 1) (h1 : (Plc.mk (segH b p q) (segS b p q) (segA p q)).le 1 1) : (whereP b p q).2 = true := by
  have nA := segA_nn p q
  have hH : 0 ≤ segH b p q := by
    refine Int.not_lt.1 fun k => h0 (.inl ?_)
    show segH b p q * 1 - 0 * segA p q < 0
    omega
  have eS : segS b p q = segH b p q * segH b p q - segA p q * segC b p := rfl
  by_cases hle : segH b p q ≤ segA p q
  · have hq : quad b p q (segH b p q) (segA p q) ≤ 0 := by
      have e : quad b p q (segH b p q) (segA p q) = -(segA p q * segS b p q) := by unfold quad segS; grind
      rw [e]
      have := Int.mul_nonneg nA hS
      omega
    exact (met_of hb (by omega) hH hle (disc_in hb hr (by omega) hq)).1
  · have hq : quad b p q 1 1 ≤ 0 := by
      have h1 : segH b p q * 1 - 1 * segA p q ≤ 0 ∨ (segH b p q * 1 - 1 * segA p q) * (segH b p q * 1 - 1 * segA p q) ≤ 1 * 1 * segS b p q := h1
      rcases h1 with h1 | h1
      · omega
      · have e : (segH b p q * 1 - 1 * segA p q) * (segH b p q * 1 - 1 * segA p q) - 1 * 1 * segS b p q = segA p q * (segA p q - 2 * segH b p q + segC b p) := by rw [eS]; grind
        have hneg : segA p q * (segA p q - 2 * segH b p q + segC b p) ≤ 0 := by omega
        have : segA p q - 2 * segH b p q + segC b p ≤ 0 := Int.not_lt.1 fun k => by
          have := Int.mul_pos (by omega : 0 < segA p q) k
          omega
        unfold quad
        omega
    exact (met_of hb (by decide) (by decide) (by decide) (disc_in hb hr (by decide) hq)).1
theorem where_eq {b : Body} {p q : Vec} (hb : b.ok = true) : (whN b p q = true → (whereP b p q).2 = false) ∧ (whN b p q = false → (whR b p q).2 = (whereP b p q).2 ∧ ((whereP b p q).2 = true → (whR b p q).1 = (whereP b p q).1)) := by
  cases hr : b.round with
  | false =>
    have ew : whereP b p q = enterP b.low b.high p q := by unfold whereP; rw [hr]; simp only [Bool.not_false, Bool.or_true]; rfl
    have er : whR b p q = enterP b.low b.high p q := by unfold whR; rw [hr]
    have en : whN b p q = enterN b.low b.high p q := by unfold whN; rw [hr]
    rw [ew, er, en]
    exact ⟨enterN_no, fun _ => ⟨rfl, fun _ => rfl⟩⟩
  | true =>
    cases hc : decide (segC b p ≤ 0) with
    | true =>
      have en : whN b p q = false := by unfold whN; rw [hr, hc]
      have er : whR b p q = (⟨0, 0, 1⟩, true) := by unfold whR; rw [hr, hc]; rfl
      have hq : quad b p q 0 1 ≤ 0 := by
        have := of_decide_eq_true hc
        unfold quad
        simp only [Int.mul_zero, Int.zero_mul, Int.mul_one]
        omega
      have hm := (met_of hb (by decide) (by decide) (by decide) (disc_in hb hr (by decide) hq)).1
      have ew : whereP b p q = (⟨0, 0, 1⟩, true) := by rw [where_circle hr (met_ent hm), hc]
      rw [en, er, ew]
      exact ⟨fun h => (nomatch h), fun _ => ⟨rfl, fun _ => rfl⟩⟩
    | false =>
      have hC : ¬ segC b p ≤ 0 := of_decide_eq_false hc
      have en : whN b p q = (decide (segA p q = 0) || decide (segS b p q < 0)) := by unfold whN; rw [hr, hc]
      refine ⟨fun h => ?_, fun h => ?_⟩
      · rw [en] at h
        cases e : (whereP b p q).2 with
        | false => rfl
        | true =>
          have ew := where_circle hr (met_ent e)
          have ha : apart b p q = true := by
            unfold apart
            rw [Bool.or_eq_true] at h
            rcases h with h | h
            · rw [h]; rfl
            · rw [h, Bool.or_true]
          rw [hc, ha] at ew
          rw [ew] at e
          cases e
      · rw [en, Bool.or_eq_false_iff] at h
        have hA : ¬ segA p q = 0 := of_decide_eq_false h.1
        have hS : ¬ segS b p q < 0 := of_decide_eq_false h.2
        have nA := segA_nn p q
        have er : whR b p q = (⟨segH b p q, segS b p q, segA p q⟩, decide (0 ≤ ordP ⟨segH b p q, segS b p q, segA p q⟩ ⟨0, 0, 1⟩) && decide (ordP ⟨segH b p q, segS b p q, segA p q⟩ ⟨1, 0, 1⟩ ≤ 0)) := by
          unfold whR
          rw [hr, hc]
          simp only
          rw [ref_z (w := ⟨segH b p q, segS b p q, segA p q⟩) (by show 0 ≤ segS b p q; omega) (by show 0 < segA p q; omega), ref_o (w := ⟨segH b p q, segS b p q, segA p q⟩) (by show 0 ≤ segS b p q; omega) (by show 0 < segA p q; omega)]
        have hs' : 0 ≤ (Plc.mk (segH b p q) (segS b p q) (segA p q)).s := by show 0 ≤ segS b p q; omega
        cases e : (whereP b p q).2 with
        | true =>
          have ew := where_circle hr (met_ent e)
          rw [hc] at ew
          simp only at ew
          cases ha : apart b p q with
          | true => rw [ha] at ew; rw [ew] at e; cases e
          | false =>
            rw [ha] at ew
            simp only at ew
            have hH : 0 ≤ segH b p q := by
              unfold apart at ha
              simp only [Bool.or_eq_false_iff, decide_eq_false_iff_not] at ha
              omega
            rw [ew] at e ⊢
            rw [er]
            refine ⟨?_, fun _ => rfl⟩
            simp only at e ⊢
            rw [e, Bool.and_true]
            refine decide_eq_true (Int.not_lt.1 fun k => ?_)
            rw [ordP_lt hs' (by decide)] at k
            have k : segH b p q * 1 - 0 * segA p q < 0 ∨ (segH b p q * 1 - 0 * segA p q) * (segH b p q * 1 - 0 * segA p q) < 1 * 1 * segS b p q := k
            have eS : segS b p q = segH b p q * segH b p q - segA p q * segC b p := rfl
            have := Int.mul_nonneg nA (by omega : 0 ≤ segC b p)
            simp only [Int.mul_one, Int.zero_mul, Int.sub_zero, Int.one_mul] at k
            omega
        | false =>
          refine ⟨?_, fun k => by cases k⟩
          rw [er]
          simp only
          rw [Bool.and_eq_false_iff]
          by_cases h0 : (Plc.mk (segH b p q) (segS b p q) (segA p q)).lt 0 1
          · left
            rw [← ordP_lt hs' (by decide)] at h0
            exact decide_eq_false (by omega)
          · by_cases h1 : (Plc.mk (segH b p q) (segS b p q) (segA p q)).le 1 1
            · rw [circle_in hb hr hA (by omega) h0 h1] at e
              cases e
            · right
              rw [← ordP_le hs'] at h1
              exact decide_eq_false h1
end Go.Proofs.YtcojfohjdibjjaaGreatDoor
