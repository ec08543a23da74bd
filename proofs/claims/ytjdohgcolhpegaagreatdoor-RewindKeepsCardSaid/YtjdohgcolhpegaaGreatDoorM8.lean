/- enter. Where a segment enters an area: what it means. -/
import Derived.Test.YtjdohgcolhpegaaGreatDoorM7
namespace Go.Proofs.YtjdohgcolhpegaaGreatDoor
open Go.RowKit

def inP (fr way lo hi : Int) : Plc := match decide (way < 0) with | true => ⟨-(hi - fr), 0, -way⟩ | false => ⟨lo - fr, 0, way⟩
def outP (fr way lo hi : Int) : Plc := match decide (way < 0) with | true => ⟨-(lo - fr), 0, -way⟩ | false => ⟨hi - fr, 0, way⟩
def maxP (x f : Plc) : Plc := match decide (0 < ordP x f) with | true => x | false => f
def minP (x l : Plc) : Plc := match decide (ordP x l < 0) with | true => x | false => l
def outside (fr way lo hi : Int) : Bool := decide (way = 0) && (decide (fr < lo) || decide (hi < fr))
def axis (fr way lo hi : Int) (x : Plc × Plc) : Option (Plc × Plc) := match outside fr way lo hi with
  | true => none
  | false => match decide (way = 0) with
    | true => some x
    | false => some (maxP (inP fr way lo hi) x.1, minP (outP fr way lo hi) x.2)
def enterP (low high p q : Vec) : Plc × Bool := match axis p.x (q.x - p.x) low.x high.x (⟨0, 0, 1⟩, ⟨1, 0, 1⟩) with
  | none => (⟨0, 0, 0⟩, false)
  | some x => match axis p.y (q.y - p.y) low.y high.y x with
    | none => (⟨0, 0, 0⟩, false)
    | some y => (y.1, decide (ordP y.1 y.2 ≤ 0))
def rowE (low high p q : Vec) : List SV := [.v (.int .i64 p.x), .v (.int .i64 (q.x - p.x)), .v (.int .i64 low.x), .v (.int .i64 high.x), .v (.int .i64 p.y), .v (.int .i64 (q.y - p.y)), .v (.int .i64 low.y), .v (.int .i64 high.y)]
def enCut (low high p q : Vec) (r : Int) (P : Plc × Plc → Prop) : Cut := ⟨Plc × Plc, fun x => P x ∧ x.1.In ∧ x.2.In,
  fun x => ⟨[sl 8 (.p 0 0), sl 10 (.p 1 0), sl 11 (.p 2 0), sl 46 (.agg (rowE low high p q)), sl 47 (.il .i64 r)], [(0, .lay [.il .i64 0, .il .i64 0, .il .i64 0] 116), (1, .lay x.1.cells 116), (2, .lay x.2.cells 116)], 3, 0, [], []⟩, fun _ => 0⟩
theorem plcIn {n m : Int} (hn : -8388608 ≤ n ∧ n ≤ 8388608) (hm : 0 ≤ m ∧ m ≤ 8388608) : Plc.In ⟨n, 0, m⟩ := ⟨⟨by show -536870912 ≤ n; omega, by show n ≤ 536870912; omega⟩, ⟨Int.le_refl 0, (by decide : (0 : Int) ≤ 288230376151711744)⟩, ⟨hm.1, by show m ≤ 134217728; omega⟩⟩
set_option maxHeartbeats 8000000 in
set_option maxRecDepth 8000 in
theorem Enter_walk : ∀ a, conj ((fun a => [a.1.In, a.2.1.In, a.2.2.1.In, a.2.2.2.In]) a) → evFn (C := cx) [conOrd] [] 0 ⟨[18], [17], [], 3⟩ Tryz.f94 (((rds4 rdVec rdVec rdVec rdVec)).enc a) fun v H _ => resOut ((fun a => .tup [(enterP a.1 a.2.1 a.2.2.1 a.2.2.2).1.sv, .v (.bool (enterP a.1 a.2.1 a.2.2.1 a.2.2.2).2)]) a) H v := by
  intro ⟨low, high, p, q⟩ ⟨h1, h2, h3, h4⟩
  obtain ⟨a1, a2⟩ : low.In := h1
  obtain ⟨b1, b2⟩ : high.In := h2
  obtain ⟨c1, c2⟩ : p.In := h3
  obtain ⟨d1, d2⟩ : q.In := h4
  have iz : Plc.In ⟨0, 0, 1⟩ := plcIn (by omega) (by omega)
  have io : Plc.In ⟨1, 0, 1⟩ := plcIn (by omega) (by omega)
  have i0 : Plc.In ⟨0, 0, 1⟩ ∧ Plc.In ⟨1, 0, 1⟩ := ⟨iz, io⟩
  refine And.intro (by unfold I64; omega : I64 (q.x - p.x)) ?_
  refine And.intro (by unfold I64; omega : I64 (q.y - p.y)) ?_
  let P0 : Plc × Plc → Prop := fun x => axis p.x (q.x - p.x) low.x high.x (⟨0, 0, 1⟩, ⟨1, 0, 1⟩) = some x
  refine Exists.intro (enCut low high p q 0 P0) ?_
  refine And.intro ?_ ?_
  · refine And.intro (by unfold I64; omega : I64 (low.x - p.x)) ?_
    refine And.intro (by unfold I64; omega : I64 (high.x - p.x)) ?_
    refine And.intro (fun ho => ?_) (fun ho => ?_)
    · have ho : outside p.x (q.x - p.x) low.x high.x = true := ho
      have he : enterP low high p q = (⟨0, 0, 0⟩, false) := by unfold enterP; rw [show axis p.x (q.x - p.x) low.x high.x (⟨0, 0, 1⟩, ⟨1, 0, 1⟩) = none by unfold axis; rw [ho]]
      simp only [he]
      repeat' (first | (refine And.intro ?_ ?_) | (intro _) | exact rfl)
    have ho : outside p.x (q.x - p.x) low.x high.x = false := ho
    refine And.intro (fun hz => ?_) (fun hz => ?_)
    · have hz : decide ((q.x - p.x) = 0) = true := hz
      refine ⟨((⟨0, 0, 1⟩ : Plc), (⟨1, 0, 1⟩ : Plc)), [(0, 4), (1, 5), (2, 6)], [], trivial, ⟨?_, i0.1, i0.2⟩, ?_⟩
      · show axis p.x (q.x - p.x) low.x high.x (⟨0, 0, 1⟩, ⟨1, 0, 1⟩) = some (⟨0, 0, 1⟩, ⟨1, 0, 1⟩)
        unfold axis; rw [ho, hz]
      · repeat' (first | (refine And.intro ?_ ?_) | (intro _) | exact rfl)
    have hz : decide ((q.x - p.x) = 0) = false := hz
    refine And.intro (fun hn => ?_) (fun hn => ?_)
    · have hn : decide ((q.x - p.x) < 0) = true := hn
      have hn' : (q.x - p.x) < 0 := of_decide_eq_true hn
      refine And.intro (by unfold I64; omega : I64 (-(q.x - p.x))) ?_
      refine And.intro (by unfold I64; omega : I64 (-(high.x - p.x))) ?_
      refine And.intro (by unfold I64; omega : I64 (-(low.x - p.x))) ?_
      have iI : Plc.In ⟨-(high.x - p.x), 0, -(q.x - p.x)⟩ := plcIn (by omega) (by omega)
      have iO : Plc.In ⟨-(low.x - p.x), 0, -(q.x - p.x)⟩ := plcIn (by omega) (by omega)
      refine And.intro ⟨iI, i0.1⟩ ?_
      refine And.intro (fun hf => ?_) (fun hf => ?_)
      · have hf : decide (0 < ordP ⟨-(high.x - p.x), 0, -(q.x - p.x)⟩ ⟨0, 0, 1⟩) = true := hf
        refine And.intro ⟨iO, i0.2⟩ ?_
        refine And.intro (fun hl => ?_) (fun hl => ?_)
        · have hl : decide (ordP ⟨-(low.x - p.x), 0, -(q.x - p.x)⟩ ⟨1, 0, 1⟩ < 0) = true := hl
          refine ⟨((⟨-(high.x - p.x), 0, -(q.x - p.x)⟩ : Plc), (⟨-(low.x - p.x), 0, -(q.x - p.x)⟩ : Plc)), [(0, 4), (1, 5), (2, 6)], [], trivial, ⟨?_, ?_, ?_⟩, ?_⟩
          · show axis p.x (q.x - p.x) low.x high.x (⟨0, 0, 1⟩, ⟨1, 0, 1⟩) = some (⟨-(high.x - p.x), 0, -(q.x - p.x)⟩, ⟨-(low.x - p.x), 0, -(q.x - p.x)⟩)
            unfold axis; rw [ho, hz]; simp only [inP, outP, maxP, minP, hn, hf, hl]
          · exact iI
          · exact iO
          · repeat' (first | (refine And.intro ?_ ?_) | (intro _) | exact rfl)
        · have hl : decide (ordP ⟨-(low.x - p.x), 0, -(q.x - p.x)⟩ ⟨1, 0, 1⟩ < 0) = false := hl
          refine ⟨((⟨-(high.x - p.x), 0, -(q.x - p.x)⟩ : Plc), (⟨1, 0, 1⟩ : Plc)), [(0, 4), (1, 5), (2, 6)], [], trivial, ⟨?_, ?_, ?_⟩, ?_⟩
          · show axis p.x (q.x - p.x) low.x high.x (⟨0, 0, 1⟩, ⟨1, 0, 1⟩) = some (⟨-(high.x - p.x), 0, -(q.x - p.x)⟩, ⟨1, 0, 1⟩)
            unfold axis; rw [ho, hz]; simp only [inP, outP, maxP, minP, hn, hf, hl]
          · exact iI
          · exact i0.2
          · repeat' (first | (refine And.intro ?_ ?_) | (intro _) | exact rfl)
      · have hf : decide (0 < ordP ⟨-(high.x - p.x), 0, -(q.x - p.x)⟩ ⟨0, 0, 1⟩) = false := hf
        refine And.intro ⟨iO, i0.2⟩ ?_
        refine And.intro (fun hl => ?_) (fun hl => ?_)
        · have hl : decide (ordP ⟨-(low.x - p.x), 0, -(q.x - p.x)⟩ ⟨1, 0, 1⟩ < 0) = true := hl
          refine ⟨((⟨0, 0, 1⟩ : Plc), (⟨-(low.x - p.x), 0, -(q.x - p.x)⟩ : Plc)), [(0, 4), (1, 5), (2, 6)], [], trivial, ⟨?_, ?_, ?_⟩, ?_⟩
          · show axis p.x (q.x - p.x) low.x high.x (⟨0, 0, 1⟩, ⟨1, 0, 1⟩) = some (⟨0, 0, 1⟩, ⟨-(low.x - p.x), 0, -(q.x - p.x)⟩)
            unfold axis; rw [ho, hz]; simp only [inP, outP, maxP, minP, hn, hf, hl]
          · exact i0.1
          · exact iO
          · repeat' (first | (refine And.intro ?_ ?_) | (intro _) | exact rfl)
        · have hl : decide (ordP ⟨-(low.x - p.x), 0, -(q.x - p.x)⟩ ⟨1, 0, 1⟩ < 0) = false := hl
          refine ⟨((⟨0, 0, 1⟩ : Plc), (⟨1, 0, 1⟩ : Plc)), [(0, 4), (1, 5), (2, 6)], [], trivial, ⟨?_, ?_, ?_⟩, ?_⟩
          · show axis p.x (q.x - p.x) low.x high.x (⟨0, 0, 1⟩, ⟨1, 0, 1⟩) = some (⟨0, 0, 1⟩, ⟨1, 0, 1⟩)
            unfold axis; rw [ho, hz]; simp only [inP, outP, maxP, minP, hn, hf, hl]
          · exact i0.1
          · exact i0.2
          · repeat' (first | (refine And.intro ?_ ?_) | (intro _) | exact rfl)
    · have hn : decide ((q.x - p.x) < 0) = false := hn
      have hn' : ¬ (q.x - p.x) < 0 := of_decide_eq_false hn
      have iI : Plc.In ⟨low.x - p.x, 0, (q.x - p.x)⟩ := plcIn (by omega) (by omega)
      have iO : Plc.In ⟨high.x - p.x, 0, (q.x - p.x)⟩ := plcIn (by omega) (by omega)
      refine And.intro ⟨iI, i0.1⟩ ?_
      refine And.intro (fun hf => ?_) (fun hf => ?_)
      · have hf : decide (0 < ordP ⟨low.x - p.x, 0, (q.x - p.x)⟩ ⟨0, 0, 1⟩) = true := hf
        refine And.intro ⟨iO, i0.2⟩ ?_
        refine And.intro (fun hl => ?_) (fun hl => ?_)
        · have hl : decide (ordP ⟨high.x - p.x, 0, (q.x - p.x)⟩ ⟨1, 0, 1⟩ < 0) = true := hl
          refine ⟨((⟨low.x - p.x, 0, (q.x - p.x)⟩ : Plc), (⟨high.x - p.x, 0, (q.x - p.x)⟩ : Plc)), [(0, 4), (1, 5), (2, 6)], [], trivial, ⟨?_, ?_, ?_⟩, ?_⟩
          · show axis p.x (q.x - p.x) low.x high.x (⟨0, 0, 1⟩, ⟨1, 0, 1⟩) = some (⟨low.x - p.x, 0, (q.x - p.x)⟩, ⟨high.x - p.x, 0, (q.x - p.x)⟩)
            unfold axis; rw [ho, hz]; simp only [inP, outP, maxP, minP, hn, hf, hl]
          · exact iI
          · exact iO
          · repeat' (first | (refine And.intro ?_ ?_) | (intro _) | exact rfl)
        · have hl : decide (ordP ⟨high.x - p.x, 0, (q.x - p.x)⟩ ⟨1, 0, 1⟩ < 0) = false := hl
          refine ⟨((⟨low.x - p.x, 0, (q.x - p.x)⟩ : Plc), (⟨1, 0, 1⟩ : Plc)), [(0, 4), (1, 5), (2, 6)], [], trivial, ⟨?_, ?_, ?_⟩, ?_⟩
          · show axis p.x (q.x - p.x) low.x high.x (⟨0, 0, 1⟩, ⟨1, 0, 1⟩) = some (⟨low.x - p.x, 0, (q.x - p.x)⟩, ⟨1, 0, 1⟩)
            unfold axis; rw [ho, hz]; simp only [inP, outP, maxP, minP, hn, hf, hl]
          · exact iI
          · exact i0.2
          · repeat' (first | (refine And.intro ?_ ?_) | (intro _) | exact rfl)
      · have hf : decide (0 < ordP ⟨low.x - p.x, 0, (q.x - p.x)⟩ ⟨0, 0, 1⟩) = false := hf
        refine And.intro ⟨iO, i0.2⟩ ?_
        refine And.intro (fun hl => ?_) (fun hl => ?_)
        · have hl : decide (ordP ⟨high.x - p.x, 0, (q.x - p.x)⟩ ⟨1, 0, 1⟩ < 0) = true := hl
          refine ⟨((⟨0, 0, 1⟩ : Plc), (⟨high.x - p.x, 0, (q.x - p.x)⟩ : Plc)), [(0, 4), (1, 5), (2, 6)], [], trivial, ⟨?_, ?_, ?_⟩, ?_⟩
          · show axis p.x (q.x - p.x) low.x high.x (⟨0, 0, 1⟩, ⟨1, 0, 1⟩) = some (⟨0, 0, 1⟩, ⟨high.x - p.x, 0, (q.x - p.x)⟩)
            unfold axis; rw [ho, hz]; simp only [inP, outP, maxP, minP, hn, hf, hl]
          · exact i0.1
          · exact iO
          · repeat' (first | (refine And.intro ?_ ?_) | (intro _) | exact rfl)
        · have hl : decide (ordP ⟨high.x - p.x, 0, (q.x - p.x)⟩ ⟨1, 0, 1⟩ < 0) = false := hl
          refine ⟨((⟨0, 0, 1⟩ : Plc), (⟨1, 0, 1⟩ : Plc)), [(0, 4), (1, 5), (2, 6)], [], trivial, ⟨?_, ?_, ?_⟩, ?_⟩
          · show axis p.x (q.x - p.x) low.x high.x (⟨0, 0, 1⟩, ⟨1, 0, 1⟩) = some (⟨0, 0, 1⟩, ⟨1, 0, 1⟩)
            unfold axis; rw [ho, hz]; simp only [inP, outP, maxP, minP, hn, hf, hl]
          · exact i0.1
          · exact i0.2
          · repeat' (first | (refine And.intro ?_ ?_) | (intro _) | exact rfl)
  refine fun (x : Plc × Plc) (hx : axis p.x (q.x - p.x) low.x high.x (⟨0, 0, 1⟩, ⟨1, 0, 1⟩) = some x ∧ x.1.In ∧ x.2.In) => ?_
  obtain ⟨hx, ix⟩ := hx
  let P1 : Plc × Plc → Prop := fun y => axis p.y (q.y - p.y) low.y high.y x = some y
  refine Exists.intro (enCut low high p q 1 P1) ?_
  refine And.intro ?_ ?_
  · refine And.intro (by unfold I64; omega : I64 (low.y - p.y)) ?_
    refine And.intro (by unfold I64; omega : I64 (high.y - p.y)) ?_
    refine And.intro (fun ho => ?_) (fun ho => ?_)
    · have ho : outside p.y (q.y - p.y) low.y high.y = true := ho
      have he : enterP low high p q = (⟨0, 0, 0⟩, false) := by unfold enterP; rw [hx]; simp only; rw [show axis p.y (q.y - p.y) low.y high.y x = none by unfold axis; rw [ho]]
      simp only [he]
      repeat' (first | (refine And.intro ?_ ?_) | (intro _) | exact rfl)
    have ho : outside p.y (q.y - p.y) low.y high.y = false := ho
    refine And.intro (fun hz => ?_) (fun hz => ?_)
    · have hz : decide ((q.y - p.y) = 0) = true := hz
      refine ⟨((x.1 : Plc), (x.2 : Plc)), [], [], trivial, ⟨?_, ix.1, ix.2⟩, ?_⟩
      · show axis p.y (q.y - p.y) low.y high.y (x.1, x.2) = some (x.1, x.2)
        unfold axis; rw [ho, hz]
      · repeat' (first | (refine And.intro ?_ ?_) | (intro _) | exact rfl)
    have hz : decide ((q.y - p.y) = 0) = false := hz
    refine And.intro (fun hn => ?_) (fun hn => ?_)
    · have hn : decide ((q.y - p.y) < 0) = true := hn
      have hn' : (q.y - p.y) < 0 := of_decide_eq_true hn
      refine And.intro (by unfold I64; omega : I64 (-(q.y - p.y))) ?_
      refine And.intro (by unfold I64; omega : I64 (-(high.y - p.y))) ?_
      refine And.intro (by unfold I64; omega : I64 (-(low.y - p.y))) ?_
      have iI : Plc.In ⟨-(high.y - p.y), 0, -(q.y - p.y)⟩ := plcIn (by omega) (by omega)
      have iO : Plc.In ⟨-(low.y - p.y), 0, -(q.y - p.y)⟩ := plcIn (by omega) (by omega)
      refine And.intro ⟨iI, ix.1⟩ ?_
      refine And.intro (fun hf => ?_) (fun hf => ?_)
      · have hf : decide (0 < ordP ⟨-(high.y - p.y), 0, -(q.y - p.y)⟩ x.1) = true := hf
        refine And.intro ⟨iO, ix.2⟩ ?_
        refine And.intro (fun hl => ?_) (fun hl => ?_)
        · have hl : decide (ordP ⟨-(low.y - p.y), 0, -(q.y - p.y)⟩ x.2 < 0) = true := hl
          refine ⟨((⟨-(high.y - p.y), 0, -(q.y - p.y)⟩ : Plc), (⟨-(low.y - p.y), 0, -(q.y - p.y)⟩ : Plc)), [], [], trivial, ⟨?_, ?_, ?_⟩, ?_⟩
          · show axis p.y (q.y - p.y) low.y high.y (x.1, x.2) = some (⟨-(high.y - p.y), 0, -(q.y - p.y)⟩, ⟨-(low.y - p.y), 0, -(q.y - p.y)⟩)
            unfold axis; rw [ho, hz]; simp only [inP, outP, maxP, minP, hn, hf, hl]
          · exact iI
          · exact iO
          · repeat' (first | (refine And.intro ?_ ?_) | (intro _) | exact rfl)
        · have hl : decide (ordP ⟨-(low.y - p.y), 0, -(q.y - p.y)⟩ x.2 < 0) = false := hl
          refine ⟨((⟨-(high.y - p.y), 0, -(q.y - p.y)⟩ : Plc), (x.2 : Plc)), [], [], trivial, ⟨?_, ?_, ?_⟩, ?_⟩
          · show axis p.y (q.y - p.y) low.y high.y (x.1, x.2) = some (⟨-(high.y - p.y), 0, -(q.y - p.y)⟩, x.2)
            unfold axis; rw [ho, hz]; simp only [inP, outP, maxP, minP, hn, hf, hl]
          · exact iI
          · exact ix.2
          · repeat' (first | (refine And.intro ?_ ?_) | (intro _) | exact rfl)
      · have hf : decide (0 < ordP ⟨-(high.y - p.y), 0, -(q.y - p.y)⟩ x.1) = false := hf
        refine And.intro ⟨iO, ix.2⟩ ?_
        refine And.intro (fun hl => ?_) (fun hl => ?_)
        · have hl : decide (ordP ⟨-(low.y - p.y), 0, -(q.y - p.y)⟩ x.2 < 0) = true := hl
          refine ⟨((x.1 : Plc), (⟨-(low.y - p.y), 0, -(q.y - p.y)⟩ : Plc)), [], [], trivial, ⟨?_, ?_, ?_⟩, ?_⟩
          · show axis p.y (q.y - p.y) low.y high.y (x.1, x.2) = some (x.1, ⟨-(low.y - p.y), 0, -(q.y - p.y)⟩)
            unfold axis; rw [ho, hz]; simp only [inP, outP, maxP, minP, hn, hf, hl]
          · exact ix.1
          · exact iO
          · repeat' (first | (refine And.intro ?_ ?_) | (intro _) | exact rfl)
        · have hl : decide (ordP ⟨-(low.y - p.y), 0, -(q.y - p.y)⟩ x.2 < 0) = false := hl
          refine ⟨((x.1 : Plc), (x.2 : Plc)), [], [], trivial, ⟨?_, ?_, ?_⟩, ?_⟩
          · show axis p.y (q.y - p.y) low.y high.y (x.1, x.2) = some (x.1, x.2)
            unfold axis; rw [ho, hz]; simp only [inP, outP, maxP, minP, hn, hf, hl]
          · exact ix.1
          · exact ix.2
          · repeat' (first | (refine And.intro ?_ ?_) | (intro _) | exact rfl)
    · have hn : decide ((q.y - p.y) < 0) = false := hn
      have hn' : ¬ (q.y - p.y) < 0 := of_decide_eq_false hn
      have iI : Plc.In ⟨low.y - p.y, 0, (q.y - p.y)⟩ := plcIn (by omega) (by omega)
      have iO : Plc.In ⟨high.y - p.y, 0, (q.y - p.y)⟩ := plcIn (by omega) (by omega)
      refine And.intro ⟨iI, ix.1⟩ ?_
      refine And.intro (fun hf => ?_) (fun hf => ?_)
      · have hf : decide (0 < ordP ⟨low.y - p.y, 0, (q.y - p.y)⟩ x.1) = true := hf
        refine And.intro ⟨iO, ix.2⟩ ?_
        refine And.intro (fun hl => ?_) (fun hl => ?_)
        · have hl : decide (ordP ⟨high.y - p.y, 0, (q.y - p.y)⟩ x.2 < 0) = true := hl
          refine ⟨((⟨low.y - p.y, 0, (q.y - p.y)⟩ : Plc), (⟨high.y - p.y, 0, (q.y - p.y)⟩ : Plc)), [], [], trivial, ⟨?_, ?_, ?_⟩, ?_⟩
          · show axis p.y (q.y - p.y) low.y high.y (x.1, x.2) = some (⟨low.y - p.y, 0, (q.y - p.y)⟩, ⟨high.y - p.y, 0, (q.y - p.y)⟩)
            unfold axis; rw [ho, hz]; simp only [inP, outP, maxP, minP, hn, hf, hl]
          · exact iI
          · exact iO
          · repeat' (first | (refine And.intro ?_ ?_) | (intro _) | exact rfl)
        · have hl : decide (ordP ⟨high.y - p.y, 0, (q.y - p.y)⟩ x.2 < 0) = false := hl
          refine ⟨((⟨low.y - p.y, 0, (q.y - p.y)⟩ : Plc), (x.2 : Plc)), [], [], trivial, ⟨?_, ?_, ?_⟩, ?_⟩
          · show axis p.y (q.y - p.y) low.y high.y (x.1, x.2) = some (⟨low.y - p.y, 0, (q.y - p.y)⟩, x.2)
            unfold axis; rw [ho, hz]; simp only [inP, outP, maxP, minP, hn, hf, hl]
          · exact iI
          · exact ix.2
          · repeat' (first | (refine And.intro ?_ ?_) | (intro _) | exact rfl)
      · have hf : decide (0 < ordP ⟨low.y - p.y, 0, (q.y - p.y)⟩ x.1) = false := hf
        refine And.intro ⟨iO, ix.2⟩ ?_
        refine And.intro (fun hl => ?_) (fun hl => ?_)
        · have hl : decide (ordP ⟨high.y - p.y, 0, (q.y - p.y)⟩ x.2 < 0) = true := hl
          refine ⟨((x.1 : Plc), (⟨high.y - p.y, 0, (q.y - p.y)⟩ : Plc)), [], [], trivial, ⟨?_, ?_, ?_⟩, ?_⟩
          · show axis p.y (q.y - p.y) low.y high.y (x.1, x.2) = some (x.1, ⟨high.y - p.y, 0, (q.y - p.y)⟩)
            unfold axis; rw [ho, hz]; simp only [inP, outP, maxP, minP, hn, hf, hl]
          · exact ix.1
          · exact iO
          · repeat' (first | (refine And.intro ?_ ?_) | (intro _) | exact rfl)
        · have hl : decide (ordP ⟨high.y - p.y, 0, (q.y - p.y)⟩ x.2 < 0) = false := hl
          refine ⟨((x.1 : Plc), (x.2 : Plc)), [], [], trivial, ⟨?_, ?_, ?_⟩, ?_⟩
          · show axis p.y (q.y - p.y) low.y high.y (x.1, x.2) = some (x.1, x.2)
            unfold axis; rw [ho, hz]; simp only [inP, outP, maxP, minP, hn, hf, hl]
          · exact ix.1
          · exact ix.2
          · repeat' (first | (refine And.intro ?_ ?_) | (intro _) | exact rfl)
  refine fun (y : Plc × Plc) (hy : axis p.y (q.y - p.y) low.y high.y x = some y ∧ y.1.In ∧ y.2.In) => ?_
  obtain ⟨hy, iy⟩ := hy
  have he : enterP low high p q = (y.1, decide (ordP y.1 y.2 ≤ 0)) := by unfold enterP; rw [hx]; simp only; rw [hy]
  simp only [he]
  refine And.intro iy ?_
  repeat' (first | (refine And.intro ?_ ?_) | (intro _) | exact rfl)
noncomputable def conEnter : Con cx := walkCon 94 Tryz.call94 (rds4 rdVec rdVec rdVec rdVec) (fun a => [a.1.In, a.2.1.In, a.2.2.1.In, a.2.2.2.In]) (fun a => .tup [(enterP a.1 a.2.1 a.2.2.1 a.2.2.2).1.sv, .v (.bool (enterP a.1 a.2.1 a.2.2.1 a.2.2.2).2)]) (fun _ => ⟨[18], [17], [], 3⟩) [18] (fun _ => rfl) follows Tryz.func94 (by kernel_rfl) Enter_walk
end Go.Proofs.YtjdohgcolhpegaaGreatDoor
namespace Go.Proofs.YtjdohgcolhpegaaGreatDoor
open Go.RowKit

structure Plc.Rat (x : Plc) : Prop where
  s : x.s = 0
  m : 0 < x.m
def leR (x y : Plc) : Prop := x.n * y.m ≤ y.n * x.m
theorem ordP_rat {x y : Plc} (hx : x.Rat) (hy : y.Rat) : ordP x y ≤ 0 ↔ leR x y := by
  unfold ordP leR; rw [if_pos ⟨hx.s, hy.s⟩]; exact cmpI_le
theorem leR_trans {x y z : Plc} (hx : x.Rat) (hy : y.Rat) (hz : z.Rat) (h : leR x y) (k : leR y z) : leR x z := by
  unfold leR at *
  have h1 := Int.mul_le_mul_of_nonneg_right h (Int.le_of_lt hz.m)
  have h2 := Int.mul_le_mul_of_nonneg_right k (Int.le_of_lt hx.m)
  have h3 : x.n * z.m * y.m ≤ z.n * x.m * y.m := by grind
  exact Int.le_of_mul_le_mul_right h3 hy.m
theorem leR_total (x y : Plc) : leR x y ∨ leR y x := Int.le_total _ _
theorem leR_refl (x : Plc) : leR x x := Int.le_refl _
theorem maxP_rat {x f : Plc} (hx : x.Rat) (hf : f.Rat) : (maxP x f).Rat := by unfold maxP; split <;> assumption
theorem minP_rat {x f : Plc} (hx : x.Rat) (hf : f.Rat) : (minP x f).Rat := by unfold minP; split <;> assumption
theorem maxP_le {x f r : Plc} (hx : x.Rat) (hf : f.Rat) (hr : r.Rat) : leR (maxP x f) r ↔ leR x r ∧ leR f r := by
  unfold maxP
  have e := ordP_rat hx hf
  split
  · rename_i h
    have h : 0 < ordP x f := of_decide_eq_true h
    have k : leR f x := (leR_total f x).resolve_right (fun k => by have := e.2 k; omega)
    exact ⟨fun q => ⟨q, leR_trans hf hx hr k q⟩, fun q => q.1⟩
  · rename_i h
    have h : ¬ 0 < ordP x f := of_decide_eq_false h
    have k : leR x f := e.1 (by omega)
    exact ⟨fun q => ⟨leR_trans hx hf hr k q, q⟩, fun q => q.2⟩
theorem le_minP {x f r : Plc} (hx : x.Rat) (hf : f.Rat) (hr : r.Rat) : leR r (minP x f) ↔ leR r x ∧ leR r f := by
  unfold minP
  have e := ordP_rat hf hx
  have e2 := ordP_neg x f
  split
  · rename_i h
    have h : ordP x f < 0 := of_decide_eq_true h
    have k : leR x f := (leR_total x f).resolve_right (fun k => by have := e.2 k; omega)
    exact ⟨fun q => ⟨q, leR_trans hr hx hf q k⟩, fun q => q.1⟩
  · rename_i h
    have h : ¬ ordP x f < 0 := of_decide_eq_false h
    have k : leR f x := e.1 (by omega)
    exact ⟨fun q => ⟨leR_trans hr hf hx q k, q⟩, fun q => q.2⟩
/-- On one axis, the place a / b lies in the range. -/
def Slab (fr way lo hi a b : Int) : Prop := b * lo ≤ b * fr + a * way ∧ b * fr + a * way ≤ b * hi
theorem axis_none {fr way lo hi : Int} {x : Plc × Plc} (h : axis fr way lo hi x = none) {a b : Int} (hb : 0 < b) : ¬ Slab fr way lo hi a b := by
  unfold axis at h
  split at h
  · rename_i ho
    unfold outside at ho
    simp only [Bool.and_eq_true, Bool.or_eq_true, decide_eq_true_eq] at ho
    intro ⟨h1, h2⟩
    rw [ho.1, Int.mul_zero, Int.add_zero] at h1 h2
    have h1 := Int.le_of_mul_le_mul_left h1 hb
    have h2 := Int.le_of_mul_le_mul_left h2 hb
    omega
  · split at h <;> cases h
theorem axis_some {fr way lo hi : Int} {x y : Plc × Plc} (h : axis fr way lo hi x = some y) (h1 : x.1.Rat) (h2 : x.2.Rat) :
    y.1.Rat ∧ y.2.Rat ∧ ∀ a b, 0 < b → (leR x.1 ⟨a, 0, b⟩ ∧ leR ⟨a, 0, b⟩ x.2 ∧ Slab fr way lo hi a b ↔ leR y.1 ⟨a, 0, b⟩ ∧ leR ⟨a, 0, b⟩ y.2) := by
  unfold axis at h
  split at h
  · cases h
  · rename_i ho
    unfold outside at ho
    split at h
    · rename_i hz
      have hz : way = 0 := of_decide_eq_true hz
      obtain rfl := Option.some.inj h
      refine ⟨h1, h2, fun a b hb => ?_⟩
      rw [hz] at ho
      simp only [decide_true, Bool.true_and, Bool.or_eq_false_iff, decide_eq_false_iff_not] at ho
      have k1 := Int.mul_le_mul_of_nonneg_left (by omega : lo ≤ fr) (Int.le_of_lt hb)
      have k2 := Int.mul_le_mul_of_nonneg_left (by omega : fr ≤ hi) (Int.le_of_lt hb)
      have k : Slab fr way lo hi a b := by unfold Slab; rw [hz, Int.mul_zero, Int.add_zero]; exact ⟨k1, k2⟩
      exact ⟨fun q => ⟨q.1, q.2.1⟩, fun q => ⟨q.1, q.2, k⟩⟩
    · rename_i hz
      have hz : ¬ way = 0 := of_decide_eq_false hz
      obtain rfl := Option.some.inj h
      have hi1 : (inP fr way lo hi).Rat := by unfold inP; split <;> (rename_i hn; simp only [decide_eq_true_eq, decide_eq_false_iff_not] at hn; exact ⟨rfl, by simp only; omega⟩)
      have ho1 : (outP fr way lo hi).Rat := by unfold outP; split <;> (rename_i hn; simp only [decide_eq_true_eq, decide_eq_false_iff_not] at hn; exact ⟨rfl, by simp only; omega⟩)
      refine ⟨maxP_rat hi1 h1, minP_rat ho1 h2, fun a b hb => ?_⟩
      have hr : Plc.Rat ⟨a, 0, b⟩ := ⟨rfl, hb⟩
      rw [maxP_le hi1 h1 hr, le_minP ho1 h2 hr]
      have key : Slab fr way lo hi a b ↔ leR (inP fr way lo hi) ⟨a, 0, b⟩ ∧ leR ⟨a, 0, b⟩ (outP fr way lo hi) := by
        unfold Slab leR inP outP
        split
        · simp only
          rw [show -(hi - fr) * b = b * fr - b * hi by grind, show a * -way = -(a * way) by grind, show -(lo - fr) * b = b * fr - b * lo by grind]
          omega
        · simp only
          rw [show (hi - fr) * b = b * hi - b * fr by grind, show (lo - fr) * b = b * lo - b * fr by grind]
          omega
      rw [key]
      constructor
      · intro ⟨q1, q2, q3, q4⟩; exact ⟨⟨q3, q1⟩, q4, q2⟩
      · intro ⟨⟨q1, q2⟩, q3, q4⟩; exact ⟨q2, q4, q1, q3⟩
/-- Both slabs. -/
def Slabs (low high p q : Vec) (a b : Int) : Prop := Slab p.x (q.x - p.x) low.x high.x a b ∧ Slab p.y (q.y - p.y) low.y high.y a b
theorem enter_no {low high p q : Vec} (h : (enterP low high p q).2 = false) {a b : Int} (hb : 0 < b) (ha : 0 ≤ a) (hab : a ≤ b) : ¬ Slabs low high p q a b := by
  intro ⟨s1, s2⟩
  have z1 : Plc.Rat ⟨0, 0, 1⟩ := ⟨rfl, by decide⟩
  have z2 : Plc.Rat ⟨1, 0, 1⟩ := ⟨rfl, by decide⟩
  unfold enterP at h
  split at h
  · rename_i h1
    exact axis_none h1 hb s1
  · rename_i x h1
    obtain ⟨r1, r2, r3⟩ := axis_some h1 z1 z2
    split at h
    · rename_i h2
      exact axis_none h2 hb s2
    · rename_i y h2
      obtain ⟨t1, t2, t3⟩ := axis_some h2 r1 r2
      have h : ¬ ordP y.1 y.2 ≤ 0 := of_decide_eq_false h
      rw [ordP_rat t1 t2] at h
      have k1 := (r3 a b hb).1 ⟨by unfold leR; simp only; omega, by unfold leR; simp only; omega, s1⟩
      have k2 := (t3 a b hb).1 ⟨k1.1, k1.2, s2⟩
      exact h (leR_trans t1 ⟨rfl, hb⟩ t2 k2.1 k2.2)
theorem enter_yes {low high p q : Vec} (h : (enterP low high p q).2 = true) : (enterP low high p q).1.Rat ∧ 0 ≤ (enterP low high p q).1.n ∧ (enterP low high p q).1.n ≤ (enterP low high p q).1.m ∧ Slabs low high p q (enterP low high p q).1.n (enterP low high p q).1.m ∧
    ∀ a b, 0 < b → 0 ≤ a → a ≤ b → Slabs low high p q a b → (enterP low high p q).1.n * b ≤ a * (enterP low high p q).1.m := by
  have z1 : Plc.Rat ⟨0, 0, 1⟩ := ⟨rfl, by decide⟩
  have z2 : Plc.Rat ⟨1, 0, 1⟩ := ⟨rfl, by decide⟩
  unfold enterP at h ⊢
  split at h
  · cases h
  · rename_i x h1
    obtain ⟨r1, r2, r3⟩ := axis_some h1 z1 z2
    split at h
    · cases h
    · rename_i y h2
      obtain ⟨t1, t2, t3⟩ := axis_some h2 r1 r2
      have h : ordP y.1 y.2 ≤ 0 := of_decide_eq_true h
      rw [ordP_rat t1 t2] at h
      simp only
      have e : (⟨y.1.n, 0, y.1.m⟩ : Plc) = y.1 := by have := t1.s; cases hy : y.1; rw [hy] at this; simp_all
      have k1 := (t3 y.1.n y.1.m t1.m).2 (by rw [e]; exact ⟨leR_refl _, h⟩)
      have k2 := (r3 y.1.n y.1.m t1.m).2 ⟨k1.1, k1.2.1⟩
      have a1 := k2.1
      have a2 := k2.2.1
      unfold leR at a1 a2
      simp only at a1 a2
      refine ⟨t1, by omega, by omega, ⟨k2.2.2, k1.2.2⟩, fun a b hb ha hab hs => ?_⟩
      have q1 := (r3 a b hb).1 ⟨by unfold leR; simp only; omega, by unfold leR; simp only; omega, hs.1⟩
      exact ((t3 a b hb).1 ⟨q1.1, q1.2, hs.2⟩).1
end Go.Proofs.YtjdohgcolhpegaaGreatDoor
