/- enter. Where a segment enters an area: what it means. where. -/
import Derived.Test.YtcojfohjdibjjaaGreatDoorQ1
namespace Go.Proofs.YtcojfohjdibjjaaGreatDoor
open Go.RowKit

def inP (fr way lo hi : Int) : Plc := match decide (way < 0) with | true => ⟨-(hi - fr), 0, -way⟩ | false => ⟨lo - fr, 0, way⟩
def outP (fr way lo hi : Int) : Plc := match decide (way < 0) with | true => ⟨-(lo - fr), 0, -way⟩ | false => ⟨hi - fr, 0, way⟩
def maxP (x f : Plc) : Plc := match decide (0 < ordP x f) with | true => x | false => f
def minP (x l : Plc) : Plc := match decide (ordP x l < 0) with | true => x | false => l
def outside (fr way lo hi : Int) : Bool := decide (way = 0) && (decide (fr < lo) || decide (hi < fr))
def axis (fr way lo hi : Int) (x : Plc × Plc) : Option (Plc × Plc) := match outside fr way lo hi with
  | true => none
  | false => match decide (way = 0) with
    | true => some x
    | false => some (maxP (inP fr way lo hi) x.1, minP (outP fr way lo hi) x.2)
def enterP (low high p q : Vec) : Plc × Bool := match axis p.x (q.x - p.x) low.x high.x (⟨0, 0, 1⟩, ⟨1, 0, 1⟩) with
  | none => (⟨0, 0, 0⟩, false)
  | some x => match axis p.y (q.y - p.y) low.y high.y x with
    | none => (⟨0, 0, 0⟩, false)
    | some y => (y.1, decide (ordP y.1 y.2 ≤ 0))
def rowE (low high p q : Vec) : List SV := [.v (.int .i64 p.x), .v (.int .i64 (q.x - p.x)), .v (.int .i64 low.x), .v (.int .i64 high.x), .v (.int .i64 p.y), .v (.int .i64 (q.y - p.y)), .v (.int .i64 low.y), .v (.int .i64 high.y)]
def enCut (low high p q : Vec) (r : Int) (P : Plc × Plc → Prop) : Cut := ⟨Plc × Plc, fun x => P x ∧ x.1.In ∧ x.2.In,
  fun x => ⟨[sl 8 (.p 0 0), sl 10 (.p 1 0), sl 11 (.p 2 0), sl 46 (.agg (rowE low high p q)), sl 47 (.il .i64 r)], [(0, .lay [.il .i64 0, .il .i64 0, .il .i64 0] 49), (1, .lay x.1.cells 49), (2, .lay x.2.cells 49)], 3, 0, [], []⟩, fun _ => 0⟩
theorem plcIn {n m : Int} (hn : -8388608 ≤ n ∧ n ≤ 8388608) (hm : 0 ≤ m ∧ m ≤ 8388608) : Plc.In ⟨n, 0, m⟩ := ⟨⟨by show -536870912 ≤ n; omega, by show n ≤ 536870912; omega⟩, ⟨Int.le_refl 0, (by decide : (0 : Int) ≤ 288230376151711744)⟩, ⟨hm.1, by show m ≤ 134217728; omega⟩⟩
set_option maxHeartbeats 8000000 in
set_option maxRecDepth 8000 in
theorem Enter_walk : ∀ a, conj ((fun a => [a.1.In, a.2.1.In, a.2.2.1.In, a.2.2.2.In]) a) → evFn (C := cx) [conOrd] [] 0 ⟨[18], [17], [], 3⟩ Tryz.f40 (((rds4 rdVec rdVec rdVec rdVec)).enc a) fun v H _ => resOut ((fun a => .tup [(enterP a.1 a.2.1 a.2.2.1 a.2.2.2).1.sv, .v (.bool (enterP a.1 a.2.1 a.2.2.1 a.2.2.2).2)]) a) H v := by
  intro ⟨low, high, p, q⟩ ⟨h1, h2, h3, h4⟩
  obtain ⟨a1, a2⟩ : low.In := h1
  obtain ⟨b1, b2⟩ : high.In := h2
  obtain ⟨c1, c2⟩ : p.In := h3
  obtain ⟨d1, d2⟩ : q.In := h4
  have iz : Plc.In ⟨0, 0, 1⟩ := plcIn (by omega) (by omega)
  have io : Plc.In ⟨1, 0, 1⟩ := plcIn (by omega) (by omega)
  have i0 : Plc.In ⟨0, 0, 1⟩ ∧ Plc.In ⟨1, 0, 1⟩ := ⟨iz, io⟩
  refine And.intro (by unfold I64; omega : I64 (q.x - p.x)) ?_
  refine And.intro (by unfold I64; omega : I64 (q.y - p.y)) ?_
  let P0 : Plc × Plc → Prop := fun x => axis p.x (q.x - p.x) low.x high.x (⟨0, 0, 1⟩, ⟨1, 0, 1⟩) = some x
  refine Exists.intro (enCut low high p q 0 P0) ?_
  refine And.intro ?_ ?_
  · refine And.intro (by unfold I64; omega : I64 (low.x - p.x)) ?_
    refine And.intro (by unfold I64; omega : I64 (high.x - p.x)) ?_
    refine And.intro (fun ho => ?_) (fun ho => ?_)
    · have ho : outside p.x (q.x - p.x) low.x high.x = true := ho
      have he : enterP low high p q = (⟨0, 0, 0⟩, false) := by unfold enterP; rw [show axis p.x (q.x - p.x) low.x high.x (⟨0, 0, 1⟩, ⟨1, 0, 1⟩) = none by unfold axis; rw [ho]]
      simp only [he]
      repeat' (first | (refine And.intro ?_ ?_) | (intro _) | exact rfl)
    have ho : outside p.x (q.x - p.x) low.x high.x = false := ho
    refine And.intro (fun hz => ?_) (fun hz => ?_)
    · have hz : decide ((q.x - p.x) = 0) = true := hz
      refine ⟨((⟨0, 0, 1⟩ : Plc), (⟨1, 0, 1⟩ : Plc)), [(0, 4), (1, 5), (2, 6)], [], trivial, ⟨?_, i0.1, i0.2⟩, ?_⟩
      · show axis p.x (q.x - p.x) low.x high.x (⟨0, 0, 1⟩, ⟨1, 0, 1⟩) = some (⟨0, 0, 1⟩, ⟨1, 0, 1⟩)
        unfold axis; rw [ho, hz]
      · repeat' (first | (refine And.intro ?_ ?_) | (intro _) | exact rfl)
    have hz : decide ((q.x - p.x) = 0) = false := hz
    refine And.intro (fun hn => ?_) (fun hn => ?_)
    · have hn : decide ((q.x - p.x) < 0) = true := hn
      have hn' : (q.x - p.x) < 0 := of_decide_eq_true hn
      refine And.intro (by unfold I64; omega : I64 (-(q.x - p.x))) ?_
      refine And.intro (by unfold I64; omega : I64 (-(high.x - p.x))) ?_
      refine And.intro (by unfold I64; omega : I64 (-(low.x - p.x))) ?_
      have iI : Plc.In ⟨-(high.x - p.x), 0, -(q.x - p.x)⟩ := plcIn (by omega) (by omega)
      have iO : Plc.In ⟨-(low.x - p.x), 0, -(q.x - p.x)⟩ := plcIn (by omega) (by omega)
      refine And.intro ⟨iI, i0.1⟩ ?_
      refine And.intro (fun hf => ?_) (fun hf => ?_)
      · have hf : decide (0 < ordP ⟨-(high.x - p.x), 0, -(q.x - p.x)⟩ ⟨0, 0, 1⟩) = true := hf
        refine And.intro ⟨iO, i0.2⟩ ?_
        refine And.intro (fun hl => ?_) (fun hl => ?_)
        · have hl : decide (ordP ⟨-(low.x - p.x), 0, -(q.x - p.x)⟩ ⟨1, 0, 1⟩ < 0) = true := hl
          refine ⟨((⟨-(high.x - p.x), 0, -(q.x - p.x)⟩ : Plc), (⟨-(low.x - p.x), 0, -(q.x - p.x)⟩ : Plc)), [(0, 4), (1, 5), (2, 6)], [], trivial, ⟨?_, ?_, ?_⟩, ?_⟩
          · show axis p.x (q.x - p.x) low.x high.x (⟨0, 0, 1⟩, ⟨1, 0, 1⟩) = some (⟨-(high.x - p.x), 0, -(q.x - p.x)⟩, ⟨-(low.x - p.x), 0, -(q.x - p.x)⟩)
            unfold axis; rw [ho, hz]; simp only [inP, outP, maxP, minP, hn, hf, hl]
          · exact iI
          · exact iO
          · repeat' (first | (refine And.intro ?_ ?_) | (intro _) | exact rfl)
        · have hl : decide (ordP ⟨-(low.x - p.x), 0, -(q.x - p.x)⟩ ⟨1, 0, 1⟩ < 0) = false := hl
          refine ⟨((⟨-(high.x - p.x), 0, -(q.x - p.x)⟩ : Plc), (⟨1, 0, 1⟩ : Plc)), [(0, 4), (1, 5), (2, 6)], [], trivial, ⟨?_, ?_, ?_⟩, ?_⟩
          · show axis p.x (q.x - p.x) low.x high.x (⟨0, 0, 1⟩, ⟨1, 0, 1⟩) = some (⟨-(high.x - p.x), 0, -(q.x - p.x)⟩, ⟨1, 0, 1⟩)
            unfold axis; rw [ho, hz]; simp only [inP, outP, maxP, minP, hn, hf, hl]
          · exact iI
          · exact i0.2
          · repeat' (first | (refine And.intro ?_ ?_) | (intro _) | exact rfl)
      · have hf : decide (0 < ordP ⟨-(high.x - p.x), 0, -(q.x - p.x)⟩ ⟨0, 0, 1⟩) = false := hf
        refine And.intro ⟨iO, i0.2⟩ ?_
        refine And.intro (fun hl => ?_) (fun hl => ?_)
        · have hl : decide (ordP ⟨-(low.x - p.x), 0, -(q.x - p.x)⟩ ⟨1, 0, 1⟩ < 0) = true := hl
          refine ⟨((⟨0, 0, 1⟩ : Plc), (⟨-(low.x - p.x), 0, -(q.x - p.x)⟩ : Plc)), [(0, 4), (1, 5), (2, 6)], [], trivial, ⟨?_, ?_, ?_⟩, ?_⟩
          · show axis p.x (q.x - p.x) low.x high.x (⟨0, 0, 1⟩, ⟨1, 0, 1⟩) = some (⟨0, 0, 1⟩, ⟨-(low.x - p.x), 0, -(q.x - p.x)⟩)
            unfold axis; rw [ho, hz]; simp only [inP, outP, maxP, minP, hn, hf, hl]
          · exact i0.1
          · exact iO
          · repeat' (first | (refine And.intro ?_ ?_) | (intro _) | exact rfl)
        · have hl : decide (ordP ⟨-(low.x - p.x), 0, -(q.x - p.x)⟩ ⟨1, 0, 1⟩ < 0) = false := hl
          refine ⟨((⟨0, 0, 1⟩ : Plc), (⟨1, 0, 1⟩ : Plc)), [(0, 4), (1, 5), (2, 6)], [], trivial, ⟨?_, ?_, ?_⟩, ?_⟩
          · show axis p.x (q.x - p.x) low.x high.x (⟨0, 0, 1⟩, ⟨1, 0, 1⟩) = some (⟨0, 0, 1⟩, ⟨1, 0, 1⟩)
            unfold axis; rw [ho, hz]; simp only [inP, outP, maxP, minP, hn, hf, hl]
          · exact i0.1
          · exact i0.2
          · repeat' (first | (refine And.intro ?_ ?_) | (intro _) | exact rfl)
    · have hn : decide ((q.x - p.x) < 0) = false := hn
      have hn' : ¬ (q.x - p.x) < 0 := of_decide_eq_false hn
      have iI : Plc.In ⟨low.x - p.x, 0, (q.x - p.x)⟩ := plcIn (by omega) (by omega)
      have iO : Plc.In ⟨high.x - p.x, 0, (q.x - p.x)⟩ := plcIn (by omega) (by omega)
      refine And.intro ⟨iI, i0.1⟩ ?_
      refine And.intro (fun hf => ?_) (fun hf => ?_)
      · have hf : decide (0 < ordP ⟨low.x - p.x, 0, (q.x - p.x)⟩ ⟨0, 0, 1⟩) = true := hf
        refine And.intro ⟨iO, i0.2⟩ ?_
        refine And.intro (fun hl => ?_) (fun hl => ?_)
        · have hl : decide (ordP ⟨high.x - p.x, 0, (q.x - p.x)⟩ ⟨1, 0, 1⟩ < 0) = true := hl
          refine ⟨((⟨low.x - p.x, 0, (q.x - p.x)⟩ : Plc), (⟨high.x - p.x, 0, (q.x - p.x)⟩ : Plc)), [(0, 4), (1, 5), (2, 6)], [], trivial, ⟨?_, ?_, ?_⟩, ?_⟩
          · show axis p.x (q.x - p.x) low.x high.x (⟨0, 0, 1⟩, ⟨1, 0, 1⟩) = some (⟨low.x - p.x, 0, (q.x - p.x)⟩, ⟨high.x - p.x, 0, (q.x - p.x)⟩)
            unfold axis; rw [ho, hz]; simp only [inP, outP, maxP, minP, hn, hf, hl]
          · exact iI
          · exact iO
          · repeat' (first | (refine And.intro ?_ ?_) | (intro _) | exact rfl)
        · have hl : decide (ordP ⟨high.x - p.x, 0, (q.x - p.x)⟩ ⟨1, 0, 1⟩ < 0) = false := hl
          refine ⟨((⟨low.x - p.x, 0, (q.x - p.x)⟩ : Plc), (⟨1, 0, 1⟩ : Plc)), [(0, 4), (1, 5), (2, 6)], [], trivial, ⟨?_, ?_, ?_⟩, ?_⟩
          · show axis p.x (q.x - p.x) low.x high.x (⟨0, 0, 1⟩, ⟨1, 0, 1⟩) = some (⟨low.x - p.x, 0, (q.x - p.x)⟩, ⟨1, 0, 1⟩)
            unfold axis; rw [ho, hz]; simp only [inP, outP, maxP, minP, hn, hf, hl]
          · exact iI
          · exact i0.2
          · repeat' (first | (refine And.intro ?_ ?_) | (intro _) | exact rfl)
      · have hf : decide (0 < ordP ⟨low.x - p.x, 0, (q.x - p.x)⟩ ⟨0, 0, 1⟩) = false := hf
        refine And.intro ⟨iO, i0.2⟩ ?_
        refine And.intro (fun hl => ?_) (fun hl => ?_)
        · have hl : decide (ordP ⟨high.x - p.x, 0, (q.x - p.x)⟩ ⟨1, 0, 1⟩ < 0) = true := hl
          refine ⟨((⟨0, 0, 1⟩ : Plc), (⟨high.x - p.x, 0, (q.x - p.x)⟩ : Plc)), [(0, 4), (1, 5), (2, 6)], [], trivial, ⟨?_, ?_, ?_⟩, ?_⟩
          · show axis p.x (q.x - p.x) low.x high.x (⟨0, 0, 1⟩, ⟨1, 0, 1⟩) = some (⟨0, 0, 1⟩, ⟨high.x - p.x, 0, (q.x - p.x)⟩)
            unfold axis; rw [ho, hz]; simp only [inP, outP, maxP, minP, hn, hf, hl]
          · exact i0.1
          · exact iO
          · repeat' (first | (refine And.intro ?_ ?_) | (intro _) | exact rfl)
        · have hl : decide (ordP ⟨high.x - p.x, 0, (q.x - p.x)⟩ ⟨1, 0, 1⟩ < 0) = false := hl
          refine ⟨((⟨0, 0, 1⟩ : Plc), (⟨1, 0, 1⟩ : Plc)), [(0, 4), (1, 5), (2, 6)], [], trivial, ⟨?_, ?_, ?_⟩, ?_⟩
          · show axis p.x (q.x - p.x) low.x high.x (⟨0, 0, 1⟩, ⟨1, 0, 1⟩) = some (⟨0, 0, 1⟩, ⟨1, 0, 1⟩)
            unfold axis; rw [ho, hz]; simp only [inP, outP, maxP, minP, hn, hf, hl]
          · exact i0.1
          · exact i0.2
          · repeat' (first | (refine And.intro ?_ ?_) | (intro _) | exact rfl)
  refine fun (x : Plc × Plc) (hx : axis p.x (q.x - p.x) low.x high.x (⟨0, 0, 1⟩, ⟨1, 0, 1⟩) = some x ∧ x.1.In ∧ x.2.In) => ?_
  obtain ⟨hx, ix⟩ := hx
  let P1 : Plc × Plc → Prop := fun y => axis p.y (q.y - p.y) low.y high.y x = some y
  refine Exists.intro (enCut low high p q 1 P1) ?_
  refine And.intro ?_ ?_
  · refine And.intro (by unfold I64; omega : I64 (low.y - p.y)) ?_
    refine And.intro (by unfold I64; omega : I64 (high.y - p.y)) ?_
    refine And.intro (fun ho => ?_) (fun ho => ?_)
    · have ho : outside p.y (q.y - p.y) low.y high.y = true := ho
      have he : enterP low high p q = (⟨0, 0, 0⟩, false) := by unfold enterP; rw [hx]; simp only; rw [show axis p.y (q.y - p.y) low.y high.y x = none by unfold axis; rw [ho]]
      simp only [he]
      repeat' (first | (refine And.intro ?_ ?_) | (intro _) | exact rfl)
    have ho : outside p.y (q.y - p.y) low.y high.y = false := ho
    refine And.intro (fun hz => ?_) (fun hz => ?_)
    · have hz : decide ((q.y - p.y) = 0) = true := hz
      refine ⟨((x.1 : Plc), (x.2 : Plc)), [], [], trivial, ⟨?_, ix.1, ix.2⟩, ?_⟩
      · show axis p.y (q.y - p.y) low.y high.y (x.1, x.2) = some (x.1, x.2)
        unfold axis; rw [ho, hz]
      · repeat' (first | (refine And.intro ?_ ?_) | (intro _) | exact rfl)
    have hz : decide ((q.y - p.y) = 0) = false := hz
    refine And.intro (fun hn => ?_) (fun hn => ?_)
    · have hn : decide ((q.y - p.y) < 0) = true := hn
      have hn' : (q.y - p.y) < 0 := of_decide_eq_true hn
      refine And.intro (by unfold I64; omega : I64 (-(q.y - p.y))) ?_
      refine And.intro (by unfold I64; omega : I64 (-(high.y - p.y))) ?_
      refine And.intro (by unfold I64; omega : I64 (-(low.y - p.y))) ?_
      have iI : Plc.In ⟨-(high.y - p.y), 0, -(q.y - p.y)⟩ := plcIn (by omega) (by omega)
      have iO : Plc.In ⟨-(low.y - p.y), 0, -(q.y - p.y)⟩ := plcIn (by omega) (by omega)
      refine And.intro ⟨iI, ix.1⟩ ?_
      refine And.intro (fun hf => ?_) (fun hf => ?_)
      · have hf : decide (0 < ordP ⟨-(high.y - p.y), 0, -(q.y - p.y)⟩ x.1) = true := hf
        refine And.intro ⟨iO, ix.2⟩ ?_
        refine And.intro (fun hl => ?_) (fun hl => ?_)
        · have hl : decide (ordP ⟨-(low.y - p.y), 0, -(q.y - p.y)⟩ x.2 < 0) = true := hl
          refine ⟨((⟨-(high.y - p.y), 0, -(q.y - p.y)⟩ : Plc), (⟨-(low.y - p.y), 0, -(q.y - p.y)⟩ : Plc)), [], [], trivial, ⟨?_, ?_, ?_⟩, ?_⟩
          · show axis p.y (q.y - p.y) low.y high.y (x.1, x.2) = some (⟨-(high.y - p.y), 0, -(q.y - p.y)⟩, ⟨-(low.y - p.y), 0, -(q.y - p.y)⟩)
            unfold axis; rw [ho, hz]; simp only [inP, outP, maxP, minP, hn, hf, hl]
          · exact iI
          · exact iO
          · repeat' (first | (refine And.intro ?_ ?_) | (intro _) | exact rfl)
        · have hl : decide (ordP ⟨-(low.y - p.y), 0, -(q.y - p.y)⟩ x.2 < 0) = false := hl
          refine ⟨((⟨-(high.y - p.y), 0, -(q.y - p.y)⟩ : Plc), (x.2 : Plc)), [], [], trivial, ⟨?_, ?_, ?_⟩, ?_⟩
          · show axis p.y (q.y - p.y) low.y high.y (x.1, x.2) = some (⟨-(high.y - p.y), 0, -(q.y - p.y)⟩, x.2)
            unfold axis; rw [ho, hz]; simp only [inP, outP, maxP, minP, hn, hf, hl]
          · exact iI
          · exact ix.2
          · repeat' (first | (refine And.intro ?_ ?_) | (intro _) | exact rfl)
      · have hf : decide (0 < ordP ⟨-(high.y - p.y), 0, -(q.y - p.y)⟩ x.1) = false := hf
        refine And.intro ⟨iO, ix.2⟩ ?_
        refine And.intro (fun hl => ?_) (fun hl => ?_)
        · have hl : decide (ordP ⟨-(low.y - p.y), 0, -(q.y - p.y)⟩ x.2 < 0) = true := hl
          refine ⟨((x.1 : Plc), (⟨-(low.y - p.y), 0, -(q.y - p.y)⟩ : Plc)), [], [], trivial, ⟨?_, ?_, ?_⟩, ?_⟩
          · show axis p.y (q.y - p.y) low.y high.y (x.1, x.2) = some (x.1, ⟨-(low.y - p.y), 0, -(q.y - p.y)⟩)
            unfold axis; rw [ho, hz]; simp only [inP, outP, maxP, minP, hn, hf, hl]
          · exact ix.1
          · exact iO
          · repeat' (first | (refine And.intro ?_ ?_) | (intro _) | exact rfl)
        · have hl : decide (ordP ⟨-(low.y - p.y), 0, -(q.y - p.y)⟩ x.2 < 0) = false := hl
          refine ⟨((x.1 : Plc), (x.2 : Plc)), [], [], trivial, ⟨?_, ?_, ?_⟩, ?_⟩
          · show axis p.y (q.y - p.y) low.y high.y (x.1, x.2) = some (x.1, x.2)
            unfold axis; rw [ho, hz]; simp only [inP, outP, maxP, minP, hn, hf, hl]
          · exact ix.1
          · exact ix.2
          · repeat' (first | (refine And.intro ?_ ?_) | (intro _) | exact rfl)
    · have hn : decide ((q.y - p.y) < 0) = false := hn
      have hn' : ¬ (q.y - p.y) < 0 := of_decide_eq_false hn
      have iI : Plc.In ⟨low.y - p.y, 0, (q.y - p.y)⟩ := plcIn (by omega) (by omega)
      have iO : Plc.In ⟨high.y - p.y, 0, (q.y - p.y)⟩ := plcIn (by omega) (by omega)
      refine And.intro ⟨iI, ix.1⟩ ?_
      refine And.intro (fun hf => ?_) (fun hf => ?_)
      · have hf : decide (0 < ordP ⟨low.y - p.y, 0, (q.y - p.y)⟩ x.1) = true := hf
        refine And.intro ⟨iO, ix.2⟩ ?_
        refine And.intro (fun hl => ?_) (fun hl => ?_)
        · have hl : decide (ordP ⟨high.y - p.y, 0, (q.y - p.y)⟩ x.2 < 0) = true := hl
          refine ⟨((⟨low.y - p.y, 0, (q.y - p.y)⟩ : Plc), (⟨high.y - p.y, 0, (q.y - p.y)⟩ : Plc)), [], [], trivial, ⟨?_, ?_, ?_⟩, ?_⟩
          · show axis p.y (q.y - p.y) low.y high.y (x.1, x.2) = some (⟨low.y - p.y, 0, (q.y - p.y)⟩, ⟨high.y - p.y, 0, (q.y - p.y)⟩)
            unfold axis; rw [ho, hz]; simp only [inP, outP, maxP, minP, hn, hf, hl]
          · exact iI
          · exact iO
          · repeat' (first | (refine And.intro ?_ ?_) | (intro _) | exact rfl)
        · have hl : decide (ordP ⟨high.y - p.y, 0, (q.y - p.y)⟩ x.2 < 0) = false := hl
          refine ⟨((⟨low.y - p.y, 0, (q.y - p.y)⟩ : Plc), (x.2 : Plc)), [], [], trivial, ⟨?_, ?_, ?_⟩, ?_⟩
          · show axis p.y (q.y - p.y) low.y high.y (x.1, x.2) = some (⟨low.y - p.y, 0, (q.y - p.y)⟩, x.2)
            unfold axis; rw [ho, hz]; simp only [inP, outP, maxP, minP, hn, hf, hl]
          · exact iI
          · exact ix.2
          · repeat' (first | (refine And.intro ?_ ?_) | (intro _) | exact rfl)
      · have hf : decide (0 < ordP ⟨low.y - p.y, 0, (q.y - p.y)⟩ x.1) = false := hf
        refine And.intro ⟨iO, ix.2⟩ ?_
        refine And.intro (fun hl => ?_) (fun hl => ?_)
        · have hl : decide (ordP ⟨high.y - p.y, 0, (q.y - p.y)⟩ x.2 < 0) = true := hl
          refine ⟨((x.1 : Plc), (⟨high.y - p.y, 0, (q.y - p.y)⟩ : Plc)), [], [], trivial, ⟨?_, ?_, ?_⟩, ?_⟩
          · show axis p.y (q.y - p.y) low.y high.y (x.1, x.2) = some (x.1, ⟨high.y - p.y, 0, (q.y - p.y)⟩)
            unfold axis; rw [ho, hz]; simp only [inP, outP, maxP, minP, hn, hf, hl]
          · exact ix.1
          · exact iO
          · repeat' (first | (refine And.intro ?_ ?_) | (intro _) | exact rfl)
        · have hl : decide (ordP ⟨high.y - p.y, 0, (q.y - p.y)⟩ x.2 < 0) = false := hl
          refine ⟨((x.1 : Plc), (x.2 : Plc)), [], [], trivial, ⟨?_, ?_, ?_⟩, ?_⟩
          · show axis p.y (q.y - p.y) low.y high.y (x.1, x.2) = some (x.1, x.2)
            unfold axis; rw [ho, hz]; simp only [inP, outP, maxP, minP, hn, hf, hl]
          · exact ix.1
          · exact ix.2
          · repeat' (first | (refine And.intro ?_ ?_) | (intro _) | exact rfl)
  refine fun (y : Plc × Plc) (hy : axis p.y (q.y - p.y) low.y high.y x = some y ∧ y.1.In ∧ y.2.In) => ?_
  obtain ⟨hy, iy⟩ := hy
  have he : enterP low high p q = (y.1, decide (ordP y.1 y.2 ≤ 0)) := by unfold enterP; rw [hx]; simp only; rw [hy]
  simp only [he]
  refine And.intro iy ?_
  repeat' (first | (refine And.intro ?_ ?_) | (intro _) | exact rfl)
noncomputable def conEnter : Con cx := walkCon 40 Tryz.call40 (rds4 rdVec rdVec rdVec rdVec) (fun a => [a.1.In, a.2.1.In, a.2.2.1.In, a.2.2.2.In]) (fun a => .tup [(enterP a.1 a.2.1 a.2.2.1 a.2.2.2).1.sv, .v (.bool (enterP a.1 a.2.1 a.2.2.1 a.2.2.2).2)]) (fun _ => ⟨[18], [17], [], 3⟩) [18] (fun _ => rfl) follows Tryz.func40 (by kernel_rfl) Enter_walk
end Go.Proofs.YtcojfohjdibjjaaGreatDoor
namespace Go.Proofs.YtcojfohjdibjjaaGreatDoor
open Go.RowKit

structure Plc.Rat (x : Plc) : Prop where
  s : x.s = 0
  m : 0 < x.m
def leR (x y : Plc) : Prop := x.n * y.m ≤ y.n * x.m
theorem ordP_rat {x y : Plc} (hx : x.Rat) (hy : y.Rat) : ordP x y ≤ 0 ↔ leR x y := by
  unfold ordP leR; rw [if_pos ⟨hx.s, hy.s⟩]; exact cmpI_le
theorem leR_trans {x y z : Plc} (hx : x.Rat) (hy : y.Rat) (hz : z.Rat) (h : leR x y) (k : leR y z) : leR x z := by
  unfold leR at *
  have h1 := Int.mul_le_mul_of_nonneg_right h (Int.le_of_lt hz.m)
  have h2 := Int.mul_le_mul_of_nonneg_right k (Int.le_of_lt hx.m)
  have h3 : x.n * z.m * y.m ≤ z.n * x.m * y.m := by grind
  exact Int.le_of_mul_le_mul_right h3 hy.m
theorem leR_total (x y : Plc) : leR x y ∨ leR y x := Int.le_total _ _
theorem leR_refl (x : Plc) : leR x x := Int.le_refl _
theorem maxP_rat {x f : Plc} (hx : x.Rat) (hf : f.Rat) : (maxP x f).Rat := by unfold maxP; split <;> assumption
theorem minP_rat {x f : Plc} (hx : x.Rat) (hf : f.Rat) : (minP x f).Rat := by unfold minP; split <;> assumption
theorem maxP_le {x f r : Plc} (hx : x.Rat) (hf : f.Rat) (hr : r.Rat) : leR (maxP x f) r ↔ leR x r ∧ leR f r := by
  unfold maxP
  have e := ordP_rat hx hf
  split
  · rename_i h
    have h : 0 < ordP x f := of_decide_eq_true h
    have k : leR f x := (leR_total f x).resolve_right (fun k => by have := e.2 k; omega)
    exact ⟨fun q => ⟨q, leR_trans hf hx hr k q⟩, fun q => q.1⟩
  · rename_i h
    have h : ¬ 0 < ordP x f := of_decide_eq_false h
    have k : leR x f := e.1 (by omega)
    exact ⟨fun q => ⟨leR_trans hx hf hr k q, q⟩, fun q => q.2⟩
theorem le_minP {x f r : Plc} (hx : x.Rat) (hf : f.Rat) (hr : r.Rat) : leR r (minP x f) ↔ leR r x ∧ leR r f := by
  unfold minP
  have e := ordP_rat hf hx
  have e2 := ordP_neg x f
  split
  · rename_i h
    have h : ordP x f < 0 := of_decide_eq_true h
    have k : leR x f := (leR_total x f).resolve_right (fun k => by have := e.2 k; omega)
    exact ⟨fun q => ⟨q, leR_trans hr hx hf q k⟩, fun q => q.1⟩
  · rename_i h
    have h : ¬ ordP x f < 0 := of_decide_eq_false h
    have k : leR f x := e.1 (by omega)
    exact ⟨fun q => ⟨leR_trans hr hf hx q k, q⟩, fun q => q.2⟩
/-- On one axis, the place a / b lies in the range. -/
def Slab (fr way lo hi a b : Int) : Prop := b * lo ≤ b * fr + a * way ∧ b * fr + a * way ≤ b * hi
theorem axis_none {fr way lo hi : Int} {x : Plc × Plc} (h : axis fr way lo hi x = none) {a b : Int} (hb : 0 < b) : ¬ Slab fr way lo hi a b := by
  unfold axis at h
  split at h
  · rename_i ho
    unfold outside at ho
    simp only [Bool.and_eq_true, Bool.or_eq_true, decide_eq_true_eq] at ho
    intro ⟨h1, h2⟩
    rw [ho.1, Int.mul_zero, Int.add_zero] at h1 h2
    have h1 := Int.le_of_mul_le_mul_left h1 hb
    have h2 := Int.le_of_mul_le_mul_left h2 hb
    omega
  · split at h <;> cases h
theorem axis_some {fr way lo hi : Int} {x y : Plc × Plc} (h : axis fr way lo hi x = some y) (h1 : x.1.Rat) (h2 : x.2.Rat) :
    y.1.Rat ∧ y.2.Rat ∧ ∀ a b, 0 < b → (leR x.1 ⟨a, 0, b⟩ ∧ leR ⟨a, 0, b⟩ x.2 ∧ Slab fr way lo hi a b ↔ leR y.1 ⟨a, 0, b⟩ ∧ leR ⟨a, 0, b⟩ y.2) := by
  unfold axis at h
  split at h
  · cases h
  · rename_i ho
    unfold outside at ho
    split at h
    · rename_i hz
      have hz : way = 0 := of_decide_eq_true hz
      obtain rfl := Option.some.inj h
      refine ⟨h1, h2, fun a b hb => ?_⟩
      rw [hz] at ho
      simp only [decide_true, Bool.true_and, Bool.or_eq_false_iff, decide_eq_false_iff_not] at ho
      have k1 := Int.mul_le_mul_of_nonneg_left (by omega : lo ≤ fr) (Int.le_of_lt hb)
      have k2 := Int.mul_le_mul_of_nonneg_left (by omega : fr ≤ hi) (Int.le_of_lt hb)
      have k : Slab fr way lo hi a b := by unfold Slab; rw [hz, Int.mul_zero, Int.add_zero]; exact ⟨k1, k2⟩
      exact ⟨fun q => ⟨q.1, q.2.1⟩, fun q => ⟨q.1, q.2, k⟩⟩
    · rename_i hz
      have hz : ¬ way = 0 := of_decide_eq_false hz
      obtain rfl := Option.some.inj h
      have hi1 : (inP fr way lo hi).Rat := by unfold inP; split <;> (rename_i hn; simp only [decide_eq_true_eq, decide_eq_false_iff_not] at hn; exact ⟨rfl, by simp only; omega⟩)
      have ho1 : (outP fr way lo hi).Rat := by unfold outP; split <;> (rename_i hn; simp only [decide_eq_true_eq, decide_eq_false_iff_not] at hn; exact ⟨rfl, by simp only; omega⟩)
      refine ⟨maxP_rat hi1 h1, minP_rat ho1 h2, fun a b hb => ?_⟩
      have hr : Plc.Rat ⟨a, 0, b⟩ := ⟨rfl, hb⟩
      rw [maxP_le hi1 h1 hr, le_minP ho1 h2 hr]
      have key : Slab fr way lo hi a b ↔ leR (inP fr way lo hi) ⟨a, 0, b⟩ ∧ leR ⟨a, 0, b⟩ (outP fr way lo hi) := by
        unfold Slab leR inP outP
        split
        · simp only
          rw [show -(hi - fr) * b = b * fr - b * hi by grind, show a * -way = -(a * way) by grind, show -(lo - fr) * b = b * fr - b * lo by grind]
          omega
        · simp only
          rw [show (hi - fr) * b = b * hi - b * fr by grind, show (lo - fr) * b = b * lo - b * fr by grind]
          omega
      rw [key]
      constructor
      · intro ⟨q1, q2, q3, q4⟩; exact ⟨⟨q3, q1⟩, q4, q2⟩
      · intro ⟨⟨q1, q2⟩, q3, q4⟩; exact ⟨q2, q4, q1, q3⟩
/-- Both slabs. -/
def Slabs (low high p q : Vec) (a b : Int) : Prop := Slab p.x (q.x - p.x) low.x high.x a b ∧ Slab p.y (q.y - p.y) low.y high.y a b
theorem enter_no {low high p q : Vec} (h : (enterP low high p q).2 = false) {a b : Int} (hb : 0 < b) (ha : 0 ≤ a) (hab : a ≤ b) : ¬ Slabs low high p q a b := by
  intro ⟨s1, s2⟩
  have z1 : Plc.Rat ⟨0, 0, 1⟩ := ⟨rfl, by decide⟩
  have z2 : Plc.Rat ⟨1, 0, 1⟩ := ⟨rfl, by decide⟩
  unfold enterP at h
  split at h
  · rename_i h1
    exact axis_none h1 hb s1
  · rename_i x h1
    obtain ⟨r1, r2, r3⟩ := axis_some h1 z1 z2
    split at h
    · rename_i h2
      exact axis_none h2 hb s2
    · rename_i y h2
      obtain ⟨t1, t2, t3⟩ := axis_some h2 r1 r2
      have h : ¬ ordP y.1 y.2 ≤ 0 := of_decide_eq_false h
      rw [ordP_rat t1 t2] at h
      have k1 := (r3 a b hb).1 ⟨by unfold leR; simp only; omega, by unfold leR; simp only; omega, s1⟩
      have k2 := (t3 a b hb).1 ⟨k1.1, k1.2, s2⟩
      exact h (leR_trans t1 ⟨rfl, hb⟩ t2 k2.1 k2.2)
theorem enter_yes {low high p q : Vec} (h : (enterP low high p q).2 = true) : (enterP low high p q).1.Rat ∧ 0 ≤ (enterP low high p q).1.n ∧ (enterP low high p q).1.n ≤ (enterP low high p q).1.m ∧ Slabs low high p q (enterP low high p q).1.n (enterP low high p q).1.m ∧
    ∀ a b, 0 < b → 0 ≤ a → a ≤ b → Slabs low high p q a b → (enterP low high p q).1.n * b ≤ a * (enterP low high p q).1.m := by
  have z1 : Plc.Rat ⟨0, 0, 1⟩ := ⟨rfl, by decide⟩
  have z2 : Plc.Rat ⟨1, 0, 1⟩ := ⟨rfl, by decide⟩
  unfold enterP at h ⊢
  split at h
  · cases h
  · rename_i x h1
    obtain ⟨r1, r2, r3⟩ := axis_some h1 z1 z2
    split at h
    · cases h
    · rename_i y h2
      obtain ⟨t1, t2, t3⟩ := axis_some h2 r1 r2
      have h : ordP y.1 y.2 ≤ 0 := of_decide_eq_true h
      rw [ordP_rat t1 t2] at h
      simp only
      have e : (⟨y.1.n, 0, y.1.m⟩ : Plc) = y.1 := by have := t1.s; cases hy : y.1; rw [hy] at this; simp_all
      have k1 := (t3 y.1.n y.1.m t1.m).2 (by rw [e]; exact ⟨leR_refl _, h⟩)
      have k2 := (r3 y.1.n y.1.m t1.m).2 ⟨k1.1, k1.2.1⟩
      have a1 := k2.1
      have a2 := k2.2.1
      unfold leR at a1 a2
      simp only at a1 a2
      refine ⟨t1, by omega, by omega, ⟨k2.2.2, k1.2.2⟩, fun a b hb ha hab hs => ?_⟩
      have q1 := (r3 a b hb).1 ⟨by unfold leR; simp only; omega, by unfold leR; simp only; omega, hs.1⟩
      exact ((t3 a b hb).1 ⟨q1.1, q1.2, hs.2⟩).1
end Go.Proofs.YtcojfohjdibjjaaGreatDoor
namespace Go.Proofs.YtcojfohjdibjjaaGreatDoor
open Go.RowKit

def segA (p q : Vec) : Int := (q.x - p.x) * (q.x - p.x) + (q.y - p.y) * (q.y - p.y)
def segH (b : Body) (p q : Vec) : Int := (q.x - p.x) * (b.posX - p.x) + (q.y - p.y) * (b.posY - p.y)
def segC (b : Body) (p : Vec) : Int := (b.posX - p.x) * (b.posX - p.x) + (b.posY - p.y) * (b.posY - p.y) - b.w * b.w
def segS (b : Body) (p q : Vec) : Int := segH b p q * segH b p q - segA p q * segC b p
def Body.ent (b : Body) (p q : Vec) : Plc × Bool := enterP b.low b.high p q
def apart (b : Body) (p q : Vec) : Bool := decide (segA p q = 0) || decide (segH b p q < 0) || decide (segS b p q < 0)
def whereP (b : Body) (p q : Vec) : Plc × Bool := match !(b.ent p q).2 || !b.round with
  | true => b.ent p q
  | false => match decide (segC b p ≤ 0) with
    | true => (⟨0, 0, 1⟩, true)
    | false => match apart b p q with
      | true => (⟨0, 0, 0⟩, false)
      | false => (⟨segH b p q, segS b p q, segA p q⟩, decide (ordP ⟨segH b p q, segS b p q, segA p q⟩ ⟨1, 0, 1⟩ ≤ 0))
theorem low_in (b : Body) : b.low.In := by
  unfold Body.low
  split
  · rename_i h
    obtain ⟨-, h1, h2, h3, h4, -⟩ := Body.Ok.of h
    constructor <;> (simp only; omega)
  · constructor <;> (simp only; omega)
theorem high_in (b : Body) : b.high.In := by
  unfold Body.high
  split
  · rename_i h
    obtain ⟨-, h1, h2, h3, h4, -⟩ := Body.Ok.of h
    constructor <;> (simp only; omega)
  · constructor <;> (simp only; omega)
theorem short_of {p q : Vec} (h : shortB p q = true) : (-8192 ≤ q.x - p.x ∧ q.x - p.x ≤ 8192) ∧ -8192 ≤ q.y - p.y ∧ q.y - p.y ≤ 8192 := by
  unfold shortB at h
  simp only [decide_eq_true_eq] at h
  omega
theorem slab_near {fr way x w a b : Int} (hb : 0 < b) (ha : 0 ≤ a) (hab : a ≤ b) (h : Slab fr way (x - w) (x + w) a b) (hw : -8192 ≤ way ∧ way ≤ 8192) : -(w + 8192) ≤ x - fr ∧ x - fr ≤ w + 8192 := by
  obtain ⟨h1, h2⟩ := h
  have k1 := Int.mul_le_mul_of_nonneg_left hw.1 ha
  have k2 := Int.mul_le_mul_of_nonneg_left hw.2 ha
  have e1 : b * (x - fr) ≤ b * (w + 8192) := by rw [Int.mul_sub, Int.mul_add]; rw [Int.mul_sub] at h1; omega
  have e2 : b * (-(w + 8192)) ≤ b * (x - fr) := by rw [Int.mul_sub, Int.mul_neg, Int.mul_add]; rw [Int.mul_add] at h2; omega
  exact ⟨Int.le_of_mul_le_mul_left e2 hb, Int.le_of_mul_le_mul_left e1 hb⟩
/-- What is near: the middle of a body whose bounds the segment meets. -/
theorem near_of {b : Body} {p q : Vec} (hb : b.ok = true) (hs : shortB p q = true) (h : (b.ent p q).2 = true) : (-24576 ≤ b.posX - p.x ∧ b.posX - p.x ≤ 24576) ∧ -24576 ≤ b.posY - p.y ∧ b.posY - p.y ≤ 24576 := by
  obtain ⟨r, h0, h1, ⟨s1, s2⟩, -⟩ := enter_yes h
  obtain ⟨-, -, -, w1, w2, -⟩ := Body.Ok.of hb
  have el : b.low = ⟨b.posX - b.w, b.posY - b.h⟩ := by unfold Body.low; rw [hb]
  have eh : b.high = ⟨b.posX + b.w, b.posY + b.h⟩ := by unfold Body.high; rw [hb]
  have x1 : b.low.x = b.posX - b.w := by rw [el]
  have y1 : b.low.y = b.posY - b.h := by rw [el]
  have x2 : b.high.x = b.posX + b.w := by rw [eh]
  have y2 : b.high.y = b.posY + b.h := by rw [eh]
  rw [x1, x2] at s1
  rw [y1, y2] at s2
  obtain ⟨t1, t2⟩ := short_of hs
  have k1 := slab_near r.m h0 h1 s1 t1
  have k2 := slab_near r.m h0 h1 s2 t2
  omega
theorem mul_bd {x y a b : Int} (hx : -a ≤ x ∧ x ≤ a) (hy : -b ≤ y ∧ y ≤ b) : -(a * b) ≤ x * y ∧ x * y ≤ a * b := by
  have ha : 0 ≤ a := by omega
  rcases Int.le_total 0 y with k | k
  · exact mul_rng hx ⟨k, hy.2⟩
  · have := mul_rng hx (y := -y) (b := b) ⟨by omega, by omega⟩
    rw [Int.mul_neg] at this
    omega
structure SegRng (b : Body) (p q : Vec) : Prop where
  a : 0 ≤ segA p q ∧ segA p q ≤ 134217728
  h : -402653184 ≤ segH b p q ∧ segH b p q ≤ 402653184
  c : -268435456 ≤ segC b p ∧ segC b p ≤ 1207959552
  hh : 0 ≤ segH b p q * segH b p q ∧ segH b p q * segH b p q ≤ 162129586585337856
  ac : 0 < segC b p → 0 ≤ segA p q * segC b p ∧ segA p q * segC b p ≤ 162129586585337856
theorem seg_rng {b : Body} {p q : Vec} (hb : b.ok = true) (hs : shortB p q = true) (h : (b.ent p q).2 = true) : SegRng b p q := by
  obtain ⟨n1, n2⟩ := near_of hb hs h
  obtain ⟨t1, t2⟩ := short_of hs
  obtain ⟨-, -, -, w1, w2, -⟩ := Body.Ok.of hb
  have a1 := sq_bd t1
  have a2 := sq_bd t2
  have h1 := mul_bd t1 n1
  have h2 := mul_bd t2 n2
  have c1 := sq_bd n1
  have c2 := sq_bd n2
  have c3 := sq_bd (x := b.w) (a := 16384) (by omega)
  have ra : 0 ≤ segA p q ∧ segA p q ≤ 134217728 := by unfold segA; omega
  have rh : -402653184 ≤ segH b p q ∧ segH b p q ≤ 402653184 := by unfold segH; omega
  have rc : -268435456 ≤ segC b p ∧ segC b p ≤ 1207959552 := by unfold segC; omega
  refine ⟨ra, rh, rc, Int.le_refl 0 |> fun _ => sq_bd rh, fun hc => ⟨Int.mul_nonneg ra.1 (by omega), Int.mul_le_mul ra.2 rc.2 (by omega) (by decide)⟩⟩
theorem apart_of {b : Body} {p q : Vec} (h : apart b p q = false) : segA p q ≠ 0 ∧ 0 ≤ segH b p q ∧ 0 ≤ segS b p q := by
  unfold apart at h
  simp only [Bool.or_eq_false_iff, decide_eq_false_iff_not] at h
  omega
theorem axis_in {fr way lo hi : Int} {x y : Plc × Plc} (h : axis fr way lo hi x = some y) (hf : -2097152 ≤ fr ∧ fr ≤ 2097152) (hw : -4194304 ≤ way ∧ way ≤ 4194304) (hl : -2097152 ≤ lo ∧ lo ≤ 2097152) (hh : -2097152 ≤ hi ∧ hi ≤ 2097152) (h1 : x.1.In) (h2 : x.2.In) : y.1.In ∧ y.2.In := by
  unfold axis at h
  split at h
  · cases h
  · split at h
    · obtain rfl := Option.some.inj h; exact ⟨h1, h2⟩
    · obtain rfl := Option.some.inj h
      have k1 : (inP fr way lo hi).In := by unfold inP; split <;> (rename_i hn; simp only [decide_eq_true_eq, decide_eq_false_iff_not] at hn; exact plcIn (by omega) (by omega))
      have k2 : (outP fr way lo hi).In := by unfold outP; split <;> (rename_i hn; simp only [decide_eq_true_eq, decide_eq_false_iff_not] at hn; exact plcIn (by omega) (by omega))
      exact ⟨by unfold maxP; split <;> assumption, by unfold minP; split <;> assumption⟩
theorem enter_in {low high p q : Vec} (hl : low.In) (hh : high.In) (hp : p.In) (hq : q.In) : (enterP low high p q).1.In := by
  obtain ⟨a1, a2⟩ := hl
  obtain ⟨b1, b2⟩ := hh
  obtain ⟨c1, c2⟩ := hp
  obtain ⟨d1, d2⟩ := hq
  unfold enterP
  split
  · exact plcIn (by omega) (by omega)
  · rename_i x hx
    obtain ⟨k1, k2⟩ := axis_in hx c1 (by omega) a1 b1 (plcIn (by omega) (by omega)) (plcIn (by omega) (by omega))
    split
    · exact plcIn (by omega) (by omega)
    · rename_i y hy
      exact (axis_in hy c2 (by omega) a2 b2 k1 k2).1
theorem where_in {b : Body} {p q : Vec} (hb : b.ok = true) (hp : p.In) (hq : q.In) (hs : shortB p q = true) : (whereP b p q).1.In := by
  unfold whereP
  split
  · exact enter_in (low_in b) (high_in b) hp hq
  · rename_i h
    simp only [Bool.or_eq_false_iff, Bool.not_eq_false'] at h
    have r := seg_rng hb hs h.1
    split
    · exact plcIn (by omega) (by omega)
    · rename_i hc
      have hc := of_decide_eq_false hc
      split
      · exact plcIn (by omega) (by omega)
      · rename_i ha
        obtain ⟨k1, k2, k3⟩ := apart_of ha
        have ra := r.a
        have rh := r.h
        have rhh := r.hh
        have rac := r.ac (by omega)
        exact ⟨⟨by show -536870912 ≤ segH b p q; omega, by show segH b p q ≤ 536870912; omega⟩, ⟨k3, by show segS b p q ≤ 288230376151711744; unfold segS; omega⟩, ⟨ra.1, by show segA p q ≤ 134217728; omega⟩⟩
set_option maxHeartbeats 4000000 in
set_option maxRecDepth 8000 in
theorem Where_walk : ∀ a, conj ((fun a => [a.1.ok = true, a.2.1.In, a.2.2.In, shortB a.2.1 a.2.2 = true]) a) → evFn (C := cx) [conBounds, conEnter, conOrd] [] 0 ⟨[13], [], [], 0⟩ Tryz.f20 (((rds3 rdBody rdVec rdVec)).enc a) fun v H _ => resOut ((fun a => .tup [(whereP a.1 a.2.1 a.2.2).1.sv, .v (.bool (whereP a.1 a.2.1 a.2.2).2)]) a) H v := by
  intro ⟨b, p, q⟩ ⟨hb, hp, hq, hs⟩
  replace hb : b.ok = true := hb
  replace hp : p.In := hp
  replace hq : q.In := hq
  replace hs : shortB p q = true := hs
  refine And.intro ⟨low_in b, high_in b, hp, hq⟩ ?_
  refine And.intro (fun h1 => ?_) (fun h1 => ?_)
  · have h1 : (!(b.ent p q).2 || !b.round) = true := h1
    have he : whereP b p q = b.ent p q := by unfold whereP; rw [h1]
    simp only [he]
    repeat' (first | (refine And.intro ?_ ?_) | (intro _) | exact rfl)
  have h1 : (!(b.ent p q).2 || !b.round) = false := h1
  have h1' := h1
  simp only [Bool.or_eq_false_iff, Bool.not_eq_false'] at h1'
  obtain ⟨ra, rh, rc, rhh, rac⟩ := seg_rng hb hs h1'.1
  obtain ⟨n1, n2⟩ := near_of hb hs h1'.1
  obtain ⟨t1, t2⟩ := short_of hs
  obtain ⟨-, -, -, w1, w2, -⟩ := Body.Ok.of hb
  have a1 := sq_bd t1
  have a2 := sq_bd t2
  have m1 := mul_bd t1 n1
  have m2 := mul_bd t2 n2
  have c1 := sq_bd n1
  have c2 := sq_bd n2
  have c3 := sq_bd (x := b.w) (a := 16384) (by omega)
  refine And.intro (by unfold I64; omega : I64 (q.x - p.x)) ?_
  refine And.intro (by unfold I64; omega : I64 (q.y - p.y)) ?_
  refine And.intro (by unfold I64; omega : I64 (b.posX - p.x)) ?_
  refine And.intro (by unfold I64; omega : I64 (b.posY - p.y)) ?_
  refine And.intro (by unfold I64; omega : I64 ((q.x - p.x) * (q.x - p.x))) ?_
  refine And.intro (by unfold I64; omega : I64 ((q.y - p.y) * (q.y - p.y))) ?_
  refine And.intro (by unfold I64; omega : I64 (segA p q)) ?_
  refine And.intro (by unfold I64; omega : I64 ((q.x - p.x) * (b.posX - p.x))) ?_
  refine And.intro (by unfold I64; omega : I64 ((q.y - p.y) * (b.posY - p.y))) ?_
  refine And.intro (by unfold I64; omega : I64 (segH b p q)) ?_
  refine And.intro (by unfold I64; omega : I64 ((b.posX - p.x) * (b.posX - p.x))) ?_
  refine And.intro (by unfold I64; omega : I64 ((b.posY - p.y) * (b.posY - p.y))) ?_
  refine And.intro (by unfold I64; omega : I64 ((b.posX - p.x) * (b.posX - p.x) + (b.posY - p.y) * (b.posY - p.y))) ?_
  refine And.intro (by unfold I64; omega : I64 (b.w * b.w)) ?_
  refine And.intro (by unfold I64; omega : I64 (segC b p)) ?_
  refine And.intro (fun h2 => ?_) (fun h2 => ?_)
  · have h2 : decide (segC b p ≤ 0) = true := h2
    have he : whereP b p q = (⟨0, 0, 1⟩, true) := by unfold whereP; rw [h1, h2]
    simp only [he]
    repeat' (first | (refine And.intro ?_ ?_) | (intro _) | exact rfl)
  have h2 : decide (segC b p ≤ 0) = false := h2
  have rac := rac (by have := of_decide_eq_false h2; omega)
  refine And.intro (by unfold I64; omega : I64 (segH b p q * segH b p q)) ?_
  refine And.intro (by unfold I64; omega : I64 (segA p q * segC b p)) ?_
  refine And.intro (by unfold I64; omega : I64 (segH b p q * segH b p q - segA p q * segC b p)) ?_
  refine And.intro (fun h3 => ?_) (fun h3 => ?_)
  · have h3 : apart b p q = true := h3
    have he : whereP b p q = (⟨0, 0, 0⟩, false) := by unfold whereP; rw [h1, h2, h3]
    simp only [he]
    repeat' (first | (refine And.intro ?_ ?_) | (intro _) | exact rfl)
  have h3 : apart b p q = false := h3
  have he : whereP b p q = (⟨segH b p q, segS b p q, segA p q⟩, decide (ordP ⟨segH b p q, segS b p q, segA p q⟩ ⟨1, 0, 1⟩ ≤ 0)) := by unfold whereP; rw [h1, h2, h3]
  have hi := where_in hb hp hq hs
  simp only [he] at hi ⊢
  have io : Plc.In ⟨1, 0, 1⟩ := plcIn (by omega) (by omega)
  refine And.intro ⟨hi, io⟩ ?_
  repeat' (first | (refine And.intro ?_ ?_) | (intro _) | exact rfl)
noncomputable def conWhere : Con cx := walkCon 20 Tryz.call20 (rds3 rdBody rdVec rdVec) (fun a => [a.1.ok = true, a.2.1.In, a.2.2.In, shortB a.2.1 a.2.2 = true]) (fun a => .tup [(whereP a.1 a.2.1 a.2.2).1.sv, .v (.bool (whereP a.1 a.2.1 a.2.2).2)]) (fun _ => ⟨[13], [], [], 0⟩) [13] (fun _ => rfl) follows Tryz.func20 (by kernel_rfl) Where_walk
end Go.Proofs.YtcojfohjdibjjaaGreatDoor
