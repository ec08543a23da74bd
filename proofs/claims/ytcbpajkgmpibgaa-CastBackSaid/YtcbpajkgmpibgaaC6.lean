/- enter. -/
import Derived.Test.YtcbpajkgmpibgaaC5
namespace Go.Proofs.Ytcbpajkgmpibgaa
open Go.RowKit

def inP (fr way lo hi : Int) : Plc := match decide (way < 0) with | true => ⟨-(hi - fr), 0, -way⟩ | false => ⟨lo - fr, 0, way⟩
def outP (fr way lo hi : Int) : Plc := match decide (way < 0) with | true => ⟨-(lo - fr), 0, -way⟩ | false => ⟨hi - fr, 0, way⟩
def maxP (x f : Plc) : Plc := match decide (0 < ordP x f) with | true => x | false => f
def minP (x l : Plc) : Plc := match decide (ordP x l < 0) with | true => x | false => l
def outside (fr way lo hi : Int) : Bool := decide (way = 0) && (decide (fr < lo) || decide (hi < fr))
def axis (fr way lo hi : Int) (x : Plc × Plc) : Option (Plc × Plc) := match outside fr way lo hi with
  | true => none
  | false => match decide (way = 0) with
    | true => some x
    | false => some (maxP (inP fr way lo hi) x.1, minP (outP fr way lo hi) x.2)
def enterP (low high p q : Vec) : Plc × Bool := match axis p.x (q.x - p.x) low.x high.x (⟨0, 0, 1⟩, ⟨1, 0, 1⟩) with
  | none => (⟨0, 0, 0⟩, false)
  | some x => match axis p.y (q.y - p.y) low.y high.y x with
    | none => (⟨0, 0, 0⟩, false)
    | some y => (y.1, decide (ordP y.1 y.2 ≤ 0))
def rowE (low high p q : Vec) : List SV := [.v (.int .i64 p.x), .v (.int .i64 (q.x - p.x)), .v (.int .i64 low.x), .v (.int .i64 high.x), .v (.int .i64 p.y), .v (.int .i64 (q.y - p.y)), .v (.int .i64 low.y), .v (.int .i64 high.y)]
def enCut (low high p q : Vec) (r : Int) (P : Plc × Plc → Prop) : Cut := ⟨Plc × Plc, fun x => P x ∧ x.1.In ∧ x.2.In,
  fun x => ⟨[sl 8 (.p 0 0), sl 10 (.p 1 0), sl 11 (.p 2 0), sl 46 (.agg (rowE low high p q)), sl 47 (.il .i64 r)], [(0, .lay [.il .i64 0, .il .i64 0, .il .i64 0] 76), (1, .lay x.1.cells 76), (2, .lay x.2.cells 76)], 3, 0, [], []⟩, fun _ => 0⟩
theorem plcIn {n m : Int} (hn : -8388608 ≤ n ∧ n ≤ 8388608) (hm : 0 ≤ m ∧ m ≤ 8388608) : Plc.In ⟨n, 0, m⟩ := ⟨⟨by show -536870912 ≤ n; omega, by show n ≤ 536870912; omega⟩, ⟨Int.le_refl 0, (by decide : (0 : Int) ≤ 288230376151711744)⟩, ⟨hm.1, by show m ≤ 134217728; omega⟩⟩
set_option maxHeartbeats 8000000 in
set_option maxRecDepth 8000 in
theorem Enter_walk : ∀ a, conj ((fun a => [a.1.In, a.2.1.In, a.2.2.1.In, a.2.2.2.In]) a) → evFn (C := cx) [conOrd] [] 0 ⟨[18], [17], [], 3⟩ Try.f48 (((rds4 rdVec rdVec rdVec rdVec)).enc a) fun v H _ => resOut ((fun a => .tup [(enterP a.1 a.2.1 a.2.2.1 a.2.2.2).1.sv, .v (.bool (enterP a.1 a.2.1 a.2.2.1 a.2.2.2).2)]) a) H v := by
  intro ⟨low, high, p, q⟩ ⟨h1, h2, h3, h4⟩
  obtain ⟨a1, a2⟩ : low.In := h1
  obtain ⟨b1, b2⟩ : high.In := h2
  obtain ⟨c1, c2⟩ : p.In := h3
  obtain ⟨d1, d2⟩ : q.In := h4
  have iz : Plc.In ⟨0, 0, 1⟩ := plcIn (by omega) (by omega)
  have io : Plc.In ⟨1, 0, 1⟩ := plcIn (by omega) (by omega)
  have i0 : Plc.In ⟨0, 0, 1⟩ ∧ Plc.In ⟨1, 0, 1⟩ := ⟨iz, io⟩
  refine And.intro (by unfold I64; omega : I64 (q.x - p.x)) ?_
  refine And.intro (by unfold I64; omega : I64 (q.y - p.y)) ?_
  let P0 : Plc × Plc → Prop := fun x => axis p.x (q.x - p.x) low.x high.x (⟨0, 0, 1⟩, ⟨1, 0, 1⟩) = some x
  refine Exists.intro (enCut low high p q 0 P0) ?_
  refine And.intro ?_ ?_
  · refine And.intro (by unfold I64; omega : I64 (low.x - p.x)) ?_
    refine And.intro (by unfold I64; omega : I64 (high.x - p.x)) ?_
    refine And.intro (fun ho => ?_) (fun ho => ?_)
    · have ho : outside p.x (q.x - p.x) low.x high.x = true := ho
      have he : enterP low high p q = (⟨0, 0, 0⟩, false) := by unfold enterP; rw [show axis p.x (q.x - p.x) low.x high.x (⟨0, 0, 1⟩, ⟨1, 0, 1⟩) = none by unfold axis; rw [ho]]
      simp only [he]
      repeat' (first | (refine And.intro ?_ ?_) | (intro _) | exact rfl)
    have ho : outside p.x (q.x - p.x) low.x high.x = false := ho
    refine And.intro (fun hz => ?_) (fun hz => ?_)
    · have hz : decide ((q.x - p.x) = 0) = true := hz
      refine ⟨((⟨0, 0, 1⟩ : Plc), (⟨1, 0, 1⟩ : Plc)), [(0, 4), (1, 5), (2, 6)], [], trivial, ⟨?_, i0.1, i0.2⟩, ?_⟩
      · show axis p.x (q.x - p.x) low.x high.x (⟨0, 0, 1⟩, ⟨1, 0, 1⟩) = some (⟨0, 0, 1⟩, ⟨1, 0, 1⟩)
        unfold axis; rw [ho, hz]
      · repeat' (first | (refine And.intro ?_ ?_) | (intro _) | exact rfl)
    have hz : decide ((q.x - p.x) = 0) = false := hz
    refine And.intro (fun hn => ?_) (fun hn => ?_)
    · have hn : decide ((q.x - p.x) < 0) = true := hn
      have hn' : (q.x - p.x) < 0 := of_decide_eq_true hn
      refine And.intro (by unfold I64; omega : I64 (-(q.x - p.x))) ?_
      refine And.intro (by unfold I64; omega : I64 (-(high.x - p.x))) ?_
      refine And.intro (by unfold I64; omega : I64 (-(low.x - p.x))) ?_
      have iI : Plc.In ⟨-(high.x - p.x), 0, -(q.x - p.x)⟩ := plcIn (by omega) (by omega)
      have iO : Plc.In ⟨-(low.x - p.x), 0, -(q.x - p.x)⟩ := plcIn (by omega) (by omega)
      refine And.intro ⟨iI, i0.1⟩ ?_
      refine And.intro (fun hf => ?_) (fun hf => ?_)
      · have hf : decide (0 < ordP ⟨-(high.x - p.x), 0, -(q.x - p.x)⟩ ⟨0, 0, 1⟩) = true := hf
        refine And.intro ⟨iO, i0.2⟩ ?_
        refine And.intro (fun hl => ?_) (fun hl => ?_)
        · have hl : decide (ordP ⟨-(low.x - p.x), 0, -(q.x - p.x)⟩ ⟨1, 0, 1⟩ < 0) = true := hl
          refine ⟨((⟨-(high.x - p.x), 0, -(q.x - p.x)⟩ : Plc), (⟨-(low.x - p.x), 0, -(q.x - p.x)⟩ : Plc)), [(0, 4), (1, 5), (2, 6)], [], trivial, ⟨?_, ?_, ?_⟩, ?_⟩
          · show axis p.x (q.x - p.x) low.x high.x (⟨0, 0, 1⟩, ⟨1, 0, 1⟩) = some (⟨-(high.x - p.x), 0, -(q.x - p.x)⟩, ⟨-(low.x - p.x), 0, -(q.x - p.x)⟩)
            unfold axis; rw [ho, hz]; simp only [inP, outP, maxP, minP, hn, hf, hl]
          · exact iI
          · exact iO
          · repeat' (first | (refine And.intro ?_ ?_) | (intro _) | exact rfl)
        · have hl : decide (ordP ⟨-(low.x - p.x), 0, -(q.x - p.x)⟩ ⟨1, 0, 1⟩ < 0) = false := hl
          refine ⟨((⟨-(high.x - p.x), 0, -(q.x - p.x)⟩ : Plc), (⟨1, 0, 1⟩ : Plc)), [(0, 4), (1, 5), (2, 6)], [], trivial, ⟨?_, ?_, ?_⟩, ?_⟩
          · show axis p.x (q.x - p.x) low.x high.x (⟨0, 0, 1⟩, ⟨1, 0, 1⟩) = some (⟨-(high.x - p.x), 0, -(q.x - p.x)⟩, ⟨1, 0, 1⟩)
            unfold axis; rw [ho, hz]; simp only [inP, outP, maxP, minP, hn, hf, hl]
          · exact iI
          · exact i0.2
          · repeat' (first | (refine And.intro ?_ ?_) | (intro _) | exact rfl)
      · have hf : decide (0 < ordP ⟨-(high.x - p.x), 0, -(q.x - p.x)⟩ ⟨0, 0, 1⟩) = false := hf
        refine And.intro ⟨iO, i0.2⟩ ?_
        refine And.intro (fun hl => ?_) (fun hl => ?_)
        · have hl : decide (ordP ⟨-(low.x - p.x), 0, -(q.x - p.x)⟩ ⟨1, 0, 1⟩ < 0) = true := hl
          refine ⟨((⟨0, 0, 1⟩ : Plc), (⟨-(low.x - p.x), 0, -(q.x - p.x)⟩ : Plc)), [(0, 4), (1, 5), (2, 6)], [], trivial, ⟨?_, ?_, ?_⟩, ?_⟩
          · show axis p.x (q.x - p.x) low.x high.x (⟨0, 0, 1⟩, ⟨1, 0, 1⟩) = some (⟨0, 0, 1⟩, ⟨-(low.x - p.x), 0, -(q.x - p.x)⟩)
            unfold axis; rw [ho, hz]; simp only [inP, outP, maxP, minP, hn, hf, hl]
          · exact i0.1
          · exact iO
          · repeat' (first | (refine And.intro ?_ ?_) | (intro _) | exact rfl)
        · have hl : decide (ordP ⟨-(low.x - p.x), 0, -(q.x - p.x)⟩ ⟨1, 0, 1⟩ < 0) = false := hl
          refine ⟨((⟨0, 0, 1⟩ : Plc), (⟨1, 0, 1⟩ : Plc)), [(0, 4), (1, 5), (2, 6)], [], trivial, ⟨?_, ?_, ?_⟩, ?_⟩
          · show axis p.x (q.x - p.x) low.x high.x (⟨0, 0, 1⟩, ⟨1, 0, 1⟩) = some (⟨0, 0, 1⟩, ⟨1, 0, 1⟩)
            unfold axis; rw [ho, hz]; simp only [inP, outP, maxP, minP, hn, hf, hl]
          · exact i0.1
          · exact i0.2
          · repeat' (first | (refine And.intro ?_ ?_) | (intro _) | exact rfl)
    · have hn : decide ((q.x - p.x) < 0) = false := hn
      have hn' : ¬ (q.x - p.x) < 0 := of_decide_eq_false hn
      have iI : Plc.In ⟨low.x - p.x, 0, (q.x - p.x)⟩ := plcIn (by omega) (by omega)
      have iO : Plc.In ⟨high.x - p.x, 0, (q.x - p.x)⟩ := plcIn (by omega) (by omega)
      refine And.intro ⟨iI, i0.1⟩ ?_
      refine And.intro (fun hf => ?_) (fun hf => ?_)
      · have hf : decide (0 < ordP ⟨low.x - p.x, 0, (q.x - p.x)⟩ ⟨0, 0, 1⟩) = true := hf
        refine And.intro ⟨iO, i0.2⟩ ?_
        refine And.intro (fun hl => ?_) (fun hl => ?_)
        · have hl : decide (ordP ⟨high.x - p.x, 0, (q.x - p.x)⟩ ⟨1, 0, 1⟩ < 0) = true := hl
          refine ⟨((⟨low.x - p.x, 0, (q.x - p.x)⟩ : Plc), (⟨high.x - p.x, 0, (q.x - p.x)⟩ : Plc)), [(0, 4), (1, 5), (2, 6)], [], trivial, ⟨?_, ?_, ?_⟩, ?_⟩
          · show axis p.x (q.x - p.x) low.x high.x (⟨0, 0, 1⟩, ⟨1, 0, 1⟩) = some (⟨low.x - p.x, 0, (q.x - p.x)⟩, ⟨high.x - p.x, 0, (q.x - p.x)⟩)
            unfold axis; rw [ho, hz]; simp only [inP, outP, maxP, minP, hn, hf, hl]
          · exact iI
          · exact iO
          · repeat' (first | (refine And.intro ?_ ?_) | (intro _) | exact rfl)
        · have hl : decide (ordP ⟨high.x - p.x, 0, (q.x - p.x)⟩ ⟨1, 0, 1⟩ < 0) = false := hl
          refine ⟨((⟨low.x - p.x, 0, (q.x - p.x)⟩ : Plc), (⟨1, 0, 1⟩ : Plc)), [(0, 4), (1, 5), (2, 6)], [], trivial, ⟨?_, ?_, ?_⟩, ?_⟩
          · show axis p.x (q.x - p.x) low.x high.x (⟨0, 0, 1⟩, ⟨1, 0, 1⟩) = some (⟨low.x - p.x, 0, (q.x - p.x)⟩, ⟨1, 0, 1⟩)
            unfold axis; rw [ho, hz]; simp only [inP, outP, maxP, minP, hn, hf, hl]
          · exact iI
          · exact i0.2
          · repeat' (first | (refine And.intro ?_ ?_) | (intro _) | exact rfl)
      · have hf : decide (0 < ordP ⟨low.x - p.x, 0, (q.x - p.x)⟩ ⟨0, 0, 1⟩) = false := hf
        refine And.intro ⟨iO, i0.2⟩ ?_
        refine And.intro (fun hl => ?_) (fun hl => ?_)
        · have hl : decide (ordP ⟨high.x - p.x, 0, (q.x - p.x)⟩ ⟨1, 0, 1⟩ < 0) = true := hl
          refine ⟨((⟨0, 0, 1⟩ : Plc), (⟨high.x - p.x, 0, (q.x - p.x)⟩ : Plc)), [(0, 4), (1, 5), (2, 6)], [], trivial, ⟨?_, ?_, ?_⟩, ?_⟩
          · show axis p.x (q.x - p.x) low.x high.x (⟨0, 0, 1⟩, ⟨1, 0, 1⟩) = some (⟨0, 0, 1⟩, ⟨high.x - p.x, 0, (q.x - p.x)⟩)
            unfold axis; rw [ho, hz]; simp only [inP, outP, maxP, minP, hn, hf, hl]
          · exact i0.1
          · exact iO
          · repeat' (first | (refine And.intro ?_ ?_) | (intro _) | exact rfl)
        · have hl : decide (ordP ⟨high.x - p.x, 0, (q.x - p.x)⟩ ⟨1, 0, 1⟩ < 0) = false := hl
          refine ⟨((⟨0, 0, 1⟩ : Plc), (⟨1, 0, 1⟩ : Plc)), [(0, 4), (1, 5), (2, 6)], [], trivial, ⟨?_, ?_, ?_⟩, ?_⟩
          · show axis p.x (q.x - p.x) low.x high.x (⟨0, 0, 1⟩, ⟨1, 0, 1⟩) = some (⟨0, 0, 1⟩, ⟨1, 0, 1⟩)
            unfold axis; rw [ho, hz]; simp only [inP, outP, maxP, minP, hn, hf, hl]
          · exact i0.1
          · exact i0.2
          · repeat' (first | (refine And.intro ?_ ?_) | (intro _) | exact rfl)
  refine fun (x : Plc × Plc) (hx : axis p.x (q.x - p.x) low.x high.x (⟨0, 0, 1⟩, ⟨1, 0, 1⟩) = some x ∧ x.1.In ∧ x.2.In) => ?_
  obtain ⟨hx, ix⟩ := hx
  let P1 : Plc × Plc → Prop := fun y => axis p.y (q.y - p.y) low.y high.y x = some y
  refine Exists.intro (enCut low high p q 1 P1) ?_
  refine And.intro ?_ ?_
  · refine And.intro (by unfold I64; omega : I64 (low.y - p.y)) ?_
    refine And.intro (by unfold I64; omega : I64 (high.y - p.y)) ?_
    refine And.intro (fun ho => ?_) (fun ho => ?_)
    · have ho : outside p.y (q.y - p.y) low.y high.y = true := ho
      have he : enterP low high p q = (⟨0, 0, 0⟩, false) := by unfold enterP; rw [hx]; simp only; rw [show axis p.y (q.y - p.y) low.y high.y x = none by unfold axis; rw [ho]]
      simp only [he]
      repeat' (first | (refine And.intro ?_ ?_) | (intro _) | exact rfl)
    have ho : outside p.y (q.y - p.y) low.y high.y = false := ho
    refine And.intro (fun hz => ?_) (fun hz => ?_)
    · have hz : decide ((q.y - p.y) = 0) = true := hz
      refine ⟨((x.1 : Plc), (x.2 : Plc)), [], [], trivial, ⟨?_, ix.1, ix.2⟩, ?_⟩
      · show axis p.y (q.y - p.y) low.y high.y (x.1, x.2) = some (x.1, x.2)
        unfold axis; rw [ho, hz]
      · repeat' (first | (refine And.intro ?_ ?_) | (intro _) | exact rfl)
    have hz : decide ((q.y - p.y) = 0) = false := hz
    refine And.intro (fun hn => ?_) (fun hn => ?_)
    · have hn : decide ((q.y - p.y) < 0) = true := hn
      have hn' : (q.y - p.y) < 0 := of_decide_eq_true hn
      refine And.intro (by unfold I64; omega : I64 (-(q.y - p.y))) ?_
      refine And.intro (by unfold I64; omega : I64 (-(high.y - p.y))) ?_
      refine And.intro (by unfold I64; omega : I64 (-(low.y - p.y))) ?_
      have iI : Plc.In ⟨-(high.y - p.y), 0, -(q.y - p.y)⟩ := plcIn (by omega) (by omega)
      have iO : Plc.In ⟨-(low.y - p.y), 0, -(q.y - p.y)⟩ := plcIn (by omega) (by omega)
      refine And.intro ⟨iI, ix.1⟩ ?_
      refine And.intro (fun hf => ?_) (fun hf => ?_)
      · have hf : decide (0 < ordP ⟨-(high.y - p.y), 0, -(q.y - p.y)⟩ x.1) = true := hf
        refine And.intro ⟨iO, ix.2⟩ ?_
        refine And.intro (fun hl => ?_) (fun hl => ?_)
        · have hl : decide (ordP ⟨-(low.y - p.y), 0, -(q.y - p.y)⟩ x.2 < 0) = true := hl
          refine ⟨((⟨-(high.y - p.y), 0, -(q.y - p.y)⟩ : Plc), (⟨-(low.y - p.y), 0, -(q.y - p.y)⟩ : Plc)), [], [], trivial, ⟨?_, ?_, ?_⟩, ?_⟩
          · show axis p.y (q.y - p.y) low.y high.y (x.1, x.2) = some (⟨-(high.y - p.y), 0, -(q.y - p.y)⟩, ⟨-(low.y - p.y), 0, -(q.y - p.y)⟩)
            unfold axis; rw [ho, hz]; simp only [inP, outP, maxP, minP, hn, hf, hl]
          · exact iI
          · exact iO
          · repeat' (first | (refine And.intro ?_ ?_) | (intro _) | exact rfl)
        · have hl : decide (ordP ⟨-(low.y - p.y), 0, -(q.y - p.y)⟩ x.2 < 0) = false := hl
          refine ⟨((⟨-(high.y - p.y), 0, -(q.y - p.y)⟩ : Plc), (x.2 : Plc)), [], [], trivial, ⟨?_, ?_, ?_⟩, ?_⟩
          · show axis p.y (q.y - p.y) low.y high.y (x.1, x.2) = some (⟨-(high.y - p.y), 0, -(q.y - p.y)⟩, x.2)
            unfold axis; rw [ho, hz]; simp only [inP, outP, maxP, minP, hn, hf, hl]
          · exact iI
          · exact ix.2
          · repeat' (first | (refine And.intro ?_ ?_) | (intro _) | exact rfl)
      · have hf : decide (0 < ordP ⟨-(high.y - p.y), 0, -(q.y - p.y)⟩ x.1) = false := hf
        refine And.intro ⟨iO, ix.2⟩ ?_
        refine And.intro (fun hl => ?_) (fun hl => ?_)
        · have hl : decide (ordP ⟨-(low.y - p.y), 0, -(q.y - p.y)⟩ x.2 < 0) = true := hl
          refine ⟨((x.1 : Plc), (⟨-(low.y - p.y), 0, -(q.y - p.y)⟩ : Plc)), [], [], trivial, ⟨?_, ?_, ?_⟩, ?_⟩
          · show axis p.y (q.y - p.y) low.y high.y (x.1, x.2) = some (x.1, ⟨-(low.y - p.y), 0, -(q.y - p.y)⟩)
            unfold axis; rw [ho, hz]; simp only [inP, outP, maxP, minP, hn, hf, hl]
          · exact ix.1
          · exact iO
          · repeat' (first | (refine And.intro ?_ ?_) | (intro _) | exact rfl)
        · have hl : decide (ordP ⟨-(low.y - p.y), 0, -(q.y - p.y)⟩ x.2 < 0) = false := hl
          refine ⟨((x.1 : Plc), (x.2 : Plc)), [], [], trivial, ⟨?_, ?_, ?_⟩, ?_⟩
          · show axis p.y (q.y - p.y) low.y high.y (x.1, x.2) = some (x.1, x.2)
            unfold axis; rw [ho, hz]; simp only [inP, outP, maxP, minP, hn, hf, hl]
          · exact ix.1
          · exact ix.2
          · repeat' (first | (refine And.intro ?_ ?_) | (intro _) | exact rfl)
    · have hn : decide ((q.y - p.y) < 0) = false := hn
      have hn' : ¬ (q.y - p.y) < 0 := of_decide_eq_false hn
      have iI : Plc.In ⟨low.y - p.y, 0, (q.y - p.y)⟩ := plcIn (by omega) (by omega)
      have iO : Plc.In ⟨high.y - p.y, 0, (q.y - p.y)⟩ := plcIn (by omega) (by omega)
      refine And.intro ⟨iI, ix.1⟩ ?_
      refine And.intro (fun hf => ?_) (fun hf => ?_)
      · have hf : decide (0 < ordP ⟨low.y - p.y, 0, (q.y - p.y)⟩ x.1) = true := hf
        refine And.intro ⟨iO, ix.2⟩ ?_
        refine And.intro (fun hl => ?_) (fun hl => ?_)
        · have hl : decide (ordP ⟨high.y - p.y, 0, (q.y - p.y)⟩ x.2 < 0) = true := hl
          refine ⟨((⟨low.y - p.y, 0, (q.y - p.y)⟩ : Plc), (⟨high.y - p.y, 0, (q.y - p.y)⟩ : Plc)), [], [], trivial, ⟨?_, ?_, ?_⟩, ?_⟩
          · show axis p.y (q.y - p.y) low.y high.y (x.1, x.2) = some (⟨low.y - p.y, 0, (q.y - p.y)⟩, ⟨high.y - p.y, 0, (q.y - p.y)⟩)
            unfold axis; rw [ho, hz]; simp only [inP, outP, maxP, minP, hn, hf, hl]
          · exact iI
          · exact iO
          · repeat' (first | (refine And.intro ?_ ?_) | (intro _) | exact rfl)
        · have hl : decide (ordP ⟨high.y - p.y, 0, (q.y - p.y)⟩ x.2 < 0) = false := hl
          refine ⟨((⟨low.y - p.y, 0, (q.y - p.y)⟩ : Plc), (x.2 : Plc)), [], [], trivial, ⟨?_, ?_, ?_⟩, ?_⟩
          · show axis p.y (q.y - p.y) low.y high.y (x.1, x.2) = some (⟨low.y - p.y, 0, (q.y - p.y)⟩, x.2)
            unfold axis; rw [ho, hz]; simp only [inP, outP, maxP, minP, hn, hf, hl]
          · exact iI
          · exact ix.2
          · repeat' (first | (refine And.intro ?_ ?_) | (intro _) | exact rfl)
      · have hf : decide (0 < ordP ⟨low.y - p.y, 0, (q.y - p.y)⟩ x.1) = false := hf
        refine And.intro ⟨iO, ix.2⟩ ?_
        refine And.intro (fun hl => ?_) (fun hl => ?_)
        · have hl : decide (ordP ⟨high.y - p.y, 0, (q.y - p.y)⟩ x.2 < 0) = true := hl
          refine ⟨((x.1 : Plc), (⟨high.y - p.y, 0, (q.y - p.y)⟩ : Plc)), [], [], trivial, ⟨?_, ?_, ?_⟩, ?_⟩
          · show axis p.y (q.y - p.y) low.y high.y (x.1, x.2) = some (x.1, ⟨high.y - p.y, 0, (q.y - p.y)⟩)
            unfold axis; rw [ho, hz]; simp only [inP, outP, maxP, minP, hn, hf, hl]
          · exact ix.1
          · exact iO
          · repeat' (first | (refine And.intro ?_ ?_) | (intro _) | exact rfl)
        · have hl : decide (ordP ⟨high.y - p.y, 0, (q.y - p.y)⟩ x.2 < 0) = false := hl
          refine ⟨((x.1 : Plc), (x.2 : Plc)), [], [], trivial, ⟨?_, ?_, ?_⟩, ?_⟩
          · show axis p.y (q.y - p.y) low.y high.y (x.1, x.2) = some (x.1, x.2)
            unfold axis; rw [ho, hz]; simp only [inP, outP, maxP, minP, hn, hf, hl]
          · exact ix.1
          · exact ix.2
          · repeat' (first | (refine And.intro ?_ ?_) | (intro _) | exact rfl)
  refine fun (y : Plc × Plc) (hy : axis p.y (q.y - p.y) low.y high.y x = some y ∧ y.1.In ∧ y.2.In) => ?_
  obtain ⟨hy, iy⟩ := hy
  have he : enterP low high p q = (y.1, decide (ordP y.1 y.2 ≤ 0)) := by unfold enterP; rw [hx]; simp only; rw [hy]
  simp only [he]
  refine And.intro iy ?_
  repeat' (first | (refine And.intro ?_ ?_) | (intro _) | exact rfl)
noncomputable def conEnter : Con cx := walkCon 48 Try.call48 (rds4 rdVec rdVec rdVec rdVec) (fun a => [a.1.In, a.2.1.In, a.2.2.1.In, a.2.2.2.In]) (fun a => .tup [(enterP a.1 a.2.1 a.2.2.1 a.2.2.2).1.sv, .v (.bool (enterP a.1 a.2.1 a.2.2.1 a.2.2.2).2)]) (fun _ => ⟨[18], [17], [], 3⟩) [18] (fun _ => rfl) follows Try.func48 (by kernel_rfl) Enter_walk
end Go.Proofs.Ytcbpajkgmpibgaa
