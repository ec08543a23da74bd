/- Places: n / m. Areas: where a segment enters (the reference's way). -/
import Derived.Test.YtcojfohjdibjjaaGreatDoorP4
import Derived.Test.YtcojfohjdibjjaaGreatDoorQ2
namespace Go.Proofs.YtcojfohjdibjjaaGreatDoor
open Go.RowKit

/-- The place n / m. -/
def atP (n m : Int) : Plc := match decide (m < 0) with | true => ⟨-n, 0, -m⟩ | false => ⟨n, 0, m⟩
def Sml (x : Int) : Prop := -1073741824 ≤ x ∧ x ≤ 1073741824
set_option maxHeartbeats 4000000 in
set_option maxRecDepth 8000 in
theorem RAt_walk : ∀ a, conj ((fun (a : Int × Int) => [Sml a.1, Sml a.2]) a) → evFn (C := cx) [conNum] [] 0 noHow Tryz.f27 ((rds2 (rdI .i64) (rdI .i64)).enc a) fun v H _ => resOut (plS (atP a.1 a.2)) H v := by
  intro ⟨n, m⟩ ⟨hn, hm⟩
  replace hn : -1073741824 ≤ n ∧ n ≤ 1073741824 := hn
  replace hm : -1073741824 ≤ m ∧ m ≤ 1073741824 := hm
  refine And.intro (fun h => ?_) (fun h => ?_)
  · have h : decide (m < 0) = true := h
    have e : atP n m = ⟨-n, 0, -m⟩ := by unfold atP; rw [h]
    simp only [e]
    refine And.intro ⟨by show -9223372036854775808 ≤ -n; omega, by show -n ≤ 9223372036854775807; omega⟩ ?_
    refine And.intro ⟨by show -9223372036854775808 ≤ -m; omega, by show -m ≤ 9223372036854775807; omega⟩ ?_
    refine And.intro ⟨by show -9223372036854775807 ≤ -n; omega, by show -n ≤ 9223372036854775807; omega⟩ ?_
    refine And.intro ⟨by decide, by decide⟩ ?_
    refine And.intro ⟨by show -9223372036854775807 ≤ -m; omega, by show -m ≤ 9223372036854775807; omega⟩ ?_
    repeat' (first | exact rfl | (refine And.intro ?_ ?_) | (intro _))
  · have h : decide (m < 0) = false := h
    have e : atP n m = ⟨n, 0, m⟩ := by unfold atP; rw [h]
    simp only [e]
    refine And.intro ⟨by show -9223372036854775807 ≤ n; omega, by show n ≤ 9223372036854775807; omega⟩ ?_
    refine And.intro ⟨by decide, by decide⟩ ?_
    refine And.intro ⟨by show -9223372036854775807 ≤ m; omega, by show m ≤ 9223372036854775807; omega⟩ ?_
    repeat' (first | exact rfl | (refine And.intro ?_ ?_) | (intro _))
noncomputable def conRAt : Con cx := walkCon 27 Tryz.call27 (rds2 (rdI .i64) (rdI .i64)) (fun (a : Int × Int) => [Sml a.1, Sml a.2]) (fun a => plS (atP a.1 a.2)) (fun _ => noHow) [] (fun _ => rfl) follows Tryz.func27 (by kernel_rfl) RAt_walk
end Go.Proofs.YtcojfohjdibjjaaGreatDoor
namespace Go.Proofs.YtcojfohjdibjjaaGreatDoor
open Go.RowKit

def nilP : SV := .agg [.v (.pointer none), .v (.pointer none), .v (.pointer none)]
/-- Does an axis keep the segment out? -/
def enterN (low high p q : Vec) : Bool := match axis p.x (q.x - p.x) low.x high.x (⟨0, 0, 1⟩, ⟨1, 0, 1⟩) with
  | none => true
  | some x => match axis p.y (q.y - p.y) low.y high.y x with
    | none => true
    | some _ => false
def areaS (low high p q : Vec) : SV := match enterN low high p q with
  | true => .tup [nilP, .bl false]
  | false => .tup [plS (enterP low high p q).1, .v (.bool (enterP low high p q).2)]
/-- Places without a root, of the size that areas have. -/
structure Rb (x : Plc) : Prop where
  s : x.s = 0
  m : 0 < x.m ∧ x.m ≤ 8388608
  n : -8388608 ≤ x.n ∧ x.n ≤ 8388608
theorem bw_of {k : Nat} {x : Int} (h : -8388608 ≤ x ∧ x ≤ 8388608) (e : 24 ≤ k) : Bw k x := by
  refine Bw.mono (j := 24) ?_ e
  show x.natAbs < 2 ^ 24
  have : (2 : Nat) ^ 24 = 16777216 := rfl
  omega
theorem Rb.b {x : Plc} (h : Rb x) : PlB x := by
  have := h.m
  refine ⟨bw_of h.n (by decide), ⟨by rw [h.s]; decide, by rw [h.s]; exact bw_of (by decide) (by decide)⟩, bw_of (by omega) (by decide)⟩
theorem Rb.eq {x y : Plc} (hx : Rb x) (hy : Rb y) : refC x y = ordP x y := refC_eq (by rw [hx.s]; decide) (by rw [hy.s]; decide) hx.m.1 hy.m.1 (fun h => absurd hx.s h)
theorem Rb.z : Rb (atP 0 1) := ⟨rfl, ⟨by decide, by decide⟩, by decide, by decide⟩
theorem Rb.o : Rb (atP 1 1) := ⟨rfl, ⟨by decide, by decide⟩, by decide, by decide⟩
theorem Rb.at {n m : Int} (hn : -8388608 ≤ n ∧ n ≤ 8388608) (hm : -8388608 ≤ m ∧ m ≤ 8388608) (h : m ≠ 0) : Rb (atP n m) := by
  unfold atP
  split
  · rename_i k
    have k := of_decide_eq_true k
    exact ⟨rfl, ⟨by show 0 < -m; omega, by show -m ≤ _; omega⟩, by show -8388608 ≤ -n; omega, by show -n ≤ 8388608; omega⟩
  · rename_i k
    have k := of_decide_eq_false k
    exact ⟨rfl, ⟨by show 0 < m; omega, by show m ≤ _; omega⟩, hn⟩
def rowA (low high p q : Vec) : List SV := [.v (.int .i64 p.x), .v (.int .i64 q.x), .v (.int .i64 low.x), .v (.int .i64 high.x), .v (.int .i64 p.y), .v (.int .i64 q.y), .v (.int .i64 low.y), .v (.int .i64 high.y)]
def arH (low high p q : Vec) (x : Plc × Plc) : Heap := [(0, .lay [.v (.pointer none), .v (.pointer none), .v (.pointer none)] 58), (1, .lay [zS x.1.n, zS x.1.s, zS x.1.m] 58), (2, .lay [zS x.2.n, zS x.2.s, zS x.2.m] 58), (3, .lay (rowA low high p q) 100)]
def ar13 (low high p q : Vec) (r : Int) (x : Plc × Plc) (P : Plc × Plc → Prop) : Cut := ⟨Plc × Plc, fun y => P y ∧ Rb y.1 ∧ Rb y.2,
  fun y => ⟨[sl 8 (.p 0 0), sl 10 (.p 1 0), sl 11 (.p 2 0), sl 12 (.p 3 0), sl 13 (.il .i64 r), sl 18 (.p 4 0), sl 19 (.p 5 0)], arH low high p q x ++ [(4, .lay [zS y.1.n, zS y.1.s, zS y.1.m] 58), (5, .lay [zS y.2.n, zS y.2.s, zS y.2.m] 58)], 6, 0, [], []⟩, fun _ => 0⟩
def ar15 (low high p q : Vec) (r : Int) (l o : Plc) (P : Plc → Prop) : Cut := ⟨Plc, fun y => P y ∧ Rb y,
  fun y => ⟨[sl 8 (.p 0 0), sl 10 (.p 1 0), sl 11 (.p 2 0), sl 12 (.p 3 0), sl 13 (.il .i64 r), sl 19 (.p 4 0)], arH low high p q (y, l) ++ [(4, .lay [zS o.n, zS o.s, zS o.m] 58)], 5, 0, [], []⟩, fun _ => 0⟩
def ar5 (low high p q : Vec) (r : Int) (P : Plc × Plc → Prop) : Cut := ⟨Plc × Plc, fun y => P y ∧ Rb y.1 ∧ Rb y.2,
  fun y => ⟨[sl 8 (.p 0 0), sl 10 (.p 1 0), sl 11 (.p 2 0), sl 12 (.p 3 0), sl 13 (.il .i64 r)], arH low high p q y, 4, 0, [], []⟩, fun _ => 0⟩
theorem plV_of (x : Plc) : plS x = plS (plV (plS x)) := congrArg plS (plV_plS x).symm
theorem Rb.v {x : Plc} (h : Rb x) : PlB (plV (plS x)) := by rw [plV_plS]; exact h.b
theorem cmpR {x y : Plc} (hx : Rb x) (hy : Rb y) : refC (plV (plS x)) (plV (plS y)) = ordP x y := by rw [plV_plS, plV_plS]; exact hx.eq hy
theorem inP_at {fr way lo hi : Int} (h : way < 0) : inP fr way lo hi = atP (hi - fr) way ∧ outP fr way lo hi = atP (lo - fr) way := by
  unfold inP outP atP; rw [decide_eq_true h]; exact ⟨rfl, rfl⟩
theorem inP_at' {fr way lo hi : Int} (h : ¬ way < 0) : inP fr way lo hi = atP (lo - fr) way ∧ outP fr way lo hi = atP (hi - fr) way := by
  unfold inP outP atP; rw [decide_eq_false h]; exact ⟨rfl, rfl⟩
set_option maxHeartbeats 8000000 in
set_option maxRecDepth 8000 in
theorem RArea_walk : ∀ a, conj ((fun (a : Vec × Vec × Vec × Vec) => [a.1.In, a.2.1.In, a.2.2.1.In, a.2.2.2.In]) a) → evFn (C := cx) [conRAt, conCompare] [] 0 ⟨[17], [13, 15, 5], [], 3⟩ Tryz.f51 ((rds4 rdVec rdVec rdVec rdVec).enc a) fun v H _ => resOut (areaS a.1 a.2.1 a.2.2.1 a.2.2.2) H v := by
  intro ⟨low, high, p, q⟩ ⟨h1, h2, h3, h4⟩
  obtain ⟨a1, a2⟩ : low.In := h1
  obtain ⟨b1, b2⟩ : high.In := h2
  obtain ⟨c1, c2⟩ : p.In := h3
  obtain ⟨d1, d2⟩ : q.In := h4
  show evFn (C := cx) [conRAt, conCompare] [] 0 ⟨[17], [13, 15, 5], [], 3⟩ Tryz.f51 [low.sv, high.sv, p.sv, q.sv] fun v H _ => resOut (areaS low high p q) H v
  have sm : ∀ x : Int, -8388608 ≤ x ∧ x ≤ 8388608 → Sml x := fun x h => by unfold Sml; omega
  have s0 : Sml 0 := sm 0 (by decide)
  have s1 : Sml 1 := sm 1 (by decide)
  refine And.intro ⟨s0, s1⟩ ?_
  refine And.intro ⟨s1, s1⟩ ?_
  let P0 : Plc × Plc → Prop := fun y => axis p.x (q.x - p.x) low.x high.x (atP 0 1, atP 1 1) = some y
  refine Exists.intro (ar5 low high p q 0 P0) ?_
  refine And.intro ?_ ?_
  · refine And.intro (by unfold I64; omega : I64 (q.x - p.x)) ?_
    refine And.intro (fun hz => ?_) (fun hz => ?_)
    · have hz : decide ((q.x - p.x) = 0) = true := hz
      refine And.intro (fun ho => ?_) (fun ho => ?_)
      · have ho : (decide (p.x < low.x) || decide (high.x < p.x)) = true := ho
        have ho : outside p.x (q.x - p.x) low.x high.x = true := by unfold outside; rw [hz, ho]; rfl
        have nn : enterN low high p q = true := by unfold enterN; rw [show axis p.x (q.x - p.x) low.x high.x (⟨0, 0, 1⟩, ⟨1, 0, 1⟩) = none by unfold axis; rw [ho]]
        have he : areaS low high p q = .tup [nilP, .bl false] := by unfold areaS; rw [nn]
        simp only [he]
        repeat' (first | (refine And.intro ?_ ?_) | (intro _) | exact rfl)
      have ho : (decide (p.x < low.x) || decide (high.x < p.x)) = false := ho
      have ho : outside p.x (q.x - p.x) low.x high.x = false := by unfold outside; rw [hz, ho]; rfl
      refine ⟨(atP 0 1, atP 1 1), [(0, 4), (1, 5), (2, 6), (3, 7)], [], trivial, ⟨?_, Rb.z, Rb.o⟩, ?_⟩
      · show axis p.x (q.x - p.x) low.x high.x (atP 0 1, atP 1 1) = some (atP 0 1, atP 1 1)
        unfold axis; rw [ho, hz]
      · repeat' (first | (refine And.intro ?_ ?_) | (intro _) | exact rfl)
    have hz : decide ((q.x - p.x) = 0) = false := hz
    have hz' : ¬ (q.x - p.x) = 0 := of_decide_eq_false hz
    have ho : outside p.x (q.x - p.x) low.x high.x = false := by unfold outside; rw [hz]; rfl
    refine And.intro (by unfold I64; omega : I64 (low.x - p.x)) ?_
    refine And.intro ⟨sm (low.x - p.x) (by omega), sm (q.x - p.x) (by omega)⟩ ?_
    refine And.intro (by unfold I64; omega : I64 (high.x - p.x)) ?_
    refine And.intro ⟨sm (high.x - p.x) (by omega), sm (q.x - p.x) (by omega)⟩ ?_
    have i1 : Rb (atP (low.x - p.x) (q.x - p.x)) := Rb.at (by omega) (by omega) hz'
    have i2 : Rb (atP (high.x - p.x) (q.x - p.x)) := Rb.at (by omega) (by omega) hz'
    refine Exists.intro (ar13 low high p q 0 (atP 0 1, atP 1 1) fun y => y.1 = inP p.x (q.x - p.x) low.x high.x ∧ y.2 = outP p.x (q.x - p.x) low.x high.x) ?_
    refine And.intro ?_ ?_
    · refine And.intro (fun hn => ?_) (fun hn => ?_)
      · have hn : (q.x - p.x) < 0 := of_decide_eq_true hn
        have e := inP_at (fr := p.x) (lo := low.x) (hi := high.x) hn
        refine ⟨(atP (high.x - p.x) (q.x - p.x), atP (low.x - p.x) (q.x - p.x)), [(0, 4), (1, 5), (2, 6), (3, 7), (4, 8), (5, 9)], [], trivial, ⟨⟨e.1.symm, e.2.symm⟩, i2, i1⟩, ?_⟩
        repeat' (first | (refine And.intro ?_ ?_) | (intro _) | exact rfl)
      · have hn : ¬ (q.x - p.x) < 0 := of_decide_eq_false hn
        have e := inP_at' (fr := p.x) (lo := low.x) (hi := high.x) hn
        refine ⟨(atP (low.x - p.x) (q.x - p.x), atP (high.x - p.x) (q.x - p.x)), [(0, 4), (1, 5), (2, 6), (3, 7), (4, 8), (5, 9)], [], trivial, ⟨⟨e.1.symm, e.2.symm⟩, i1, i2⟩, ?_⟩
        repeat' (first | (refine And.intro ?_ ?_) | (intro _) | exact rfl)
    refine fun (io : Plc × Plc) hio => ?_
    obtain ⟨I, O⟩ := io
    obtain ⟨⟨eI, eO⟩, rI, rO⟩ : (I = inP p.x (q.x - p.x) low.x high.x ∧ O = outP p.x (q.x - p.x) low.x high.x) ∧ Rb I ∧ Rb O := hio
    refine Exists.intro (ar15 low high p q 0 (atP 1 1) O fun y => y = maxP I (atP 0 1)) ?_
    refine And.intro ?_ ?_
    · refine And.intro ⟨plV_of I, plV_of (atP 0 1), rI.v, Rb.z.v⟩ ?_
      refine And.intro (fun hf => ?_) (fun hf => ?_)
      · have hf : decide (0 < refC (plV (plS I)) (plV (plS (atP 0 1)))) = true := hf
        rw [cmpR rI Rb.z] at hf
        refine ⟨I, [(4, 5)], [], trivial, ⟨by unfold maxP; rw [hf], rI⟩, ?_⟩
        repeat' (first | (refine And.intro ?_ ?_) | (intro _) | exact rfl)
      · have hf : decide (0 < refC (plV (plS I)) (plV (plS (atP 0 1)))) = false := hf
        rw [cmpR rI Rb.z] at hf
        refine ⟨(atP 0 1), [(4, 5)], [], trivial, ⟨by unfold maxP; rw [hf], Rb.z⟩, ?_⟩
        repeat' (first | (refine And.intro ?_ ?_) | (intro _) | exact rfl)
    refine fun (F : Plc) hF => ?_
    obtain ⟨eF, rF⟩ : F = maxP I (atP 0 1) ∧ Rb F := hF
    refine And.intro ⟨plV_of O, plV_of (atP 1 1), rO.v, Rb.o.v⟩ ?_
    refine And.intro (fun hl => ?_) (fun hl => ?_)
    · have hl : decide (refC (plV (plS O)) (plV (plS (atP 1 1))) < 0) = true := hl
      rw [cmpR rO Rb.o] at hl
      refine ⟨(F, O), [], [], trivial, ⟨?_, rF, rO⟩, ?_⟩
      · show axis p.x (q.x - p.x) low.x high.x (atP 0 1, atP 1 1) = some (F, O)
        unfold axis; rw [ho, hz, eF, eI, eO]; rw [eO] at hl; simp only [minP, hl]
      · repeat' (first | (refine And.intro ?_ ?_) | (intro _) | exact rfl)
    · have hl : decide (refC (plV (plS O)) (plV (plS (atP 1 1))) < 0) = false := hl
      rw [cmpR rO Rb.o] at hl
      refine ⟨(F, (atP 1 1)), [], [], trivial, ⟨?_, rF, Rb.o⟩, ?_⟩
      · show axis p.x (q.x - p.x) low.x high.x (atP 0 1, atP 1 1) = some (F, (atP 1 1))
        unfold axis; rw [ho, hz, eF, eI]; rw [eO] at hl; simp only [minP, hl]
      · repeat' (first | (refine And.intro ?_ ?_) | (intro _) | exact rfl)
  refine fun (x : Plc × Plc) hx => ?_
  obtain ⟨hx, rx⟩ : axis p.x (q.x - p.x) low.x high.x (⟨0, 0, 1⟩, ⟨1, 0, 1⟩) = some x ∧ Rb x.1 ∧ Rb x.2 := hx
  let P1 : Plc × Plc → Prop := fun y => axis p.y (q.y - p.y) low.y high.y x = some y
  refine Exists.intro (ar5 low high p q 1 P1) ?_
  refine And.intro ?_ ?_
  · refine And.intro (by unfold I64; omega : I64 (q.y - p.y)) ?_
    refine And.intro (fun hz => ?_) (fun hz => ?_)
    · have hz : decide ((q.y - p.y) = 0) = true := hz
      refine And.intro (fun ho => ?_) (fun ho => ?_)
      · have ho : (decide (p.y < low.y) || decide (high.y < p.y)) = true := ho
        have ho : outside p.y (q.y - p.y) low.y high.y = true := by unfold outside; rw [hz, ho]; rfl
        have nn : enterN low high p q = true := by unfold enterN; rw [hx]; simp only; rw [show axis p.y (q.y - p.y) low.y high.y x = none by unfold axis; rw [ho]]
        have he : areaS low high p q = .tup [nilP, .bl false] := by unfold areaS; rw [nn]
        simp only [he]
        repeat' (first | (refine And.intro ?_ ?_) | (intro _) | exact rfl)
      have ho : (decide (p.y < low.y) || decide (high.y < p.y)) = false := ho
      have ho : outside p.y (q.y - p.y) low.y high.y = false := by unfold outside; rw [hz, ho]; rfl
      refine ⟨x, [], [], trivial, ⟨?_, rx.1, rx.2⟩, ?_⟩
      · show axis p.y (q.y - p.y) low.y high.y x = some x
        unfold axis; rw [ho, hz]
      · repeat' (first | (refine And.intro ?_ ?_) | (intro _) | exact rfl)
    have hz : decide ((q.y - p.y) = 0) = false := hz
    have hz' : ¬ (q.y - p.y) = 0 := of_decide_eq_false hz
    have ho : outside p.y (q.y - p.y) low.y high.y = false := by unfold outside; rw [hz]; rfl
    refine And.intro (by unfold I64; omega : I64 (low.y - p.y)) ?_
    refine And.intro ⟨sm (low.y - p.y) (by omega), sm (q.y - p.y) (by omega)⟩ ?_
    refine And.intro (by unfold I64; omega : I64 (high.y - p.y)) ?_
    refine And.intro ⟨sm (high.y - p.y) (by omega), sm (q.y - p.y) (by omega)⟩ ?_
    have i1 : Rb (atP (low.y - p.y) (q.y - p.y)) := Rb.at (by omega) (by omega) hz'
    have i2 : Rb (atP (high.y - p.y) (q.y - p.y)) := Rb.at (by omega) (by omega) hz'
    refine Exists.intro (ar13 low high p q 1 x fun y => y.1 = inP p.y (q.y - p.y) low.y high.y ∧ y.2 = outP p.y (q.y - p.y) low.y high.y) ?_
    refine And.intro ?_ ?_
    · refine And.intro (fun hn => ?_) (fun hn => ?_)
      · have hn : (q.y - p.y) < 0 := of_decide_eq_true hn
        have e := inP_at (fr := p.y) (lo := low.y) (hi := high.y) hn
        refine ⟨(atP (high.y - p.y) (q.y - p.y), atP (low.y - p.y) (q.y - p.y)), [], [], trivial, ⟨⟨e.1.symm, e.2.symm⟩, i2, i1⟩, ?_⟩
        repeat' (first | (refine And.intro ?_ ?_) | (intro _) | exact rfl)
      · have hn : ¬ (q.y - p.y) < 0 := of_decide_eq_false hn
        have e := inP_at' (fr := p.y) (lo := low.y) (hi := high.y) hn
        refine ⟨(atP (low.y - p.y) (q.y - p.y), atP (high.y - p.y) (q.y - p.y)), [], [], trivial, ⟨⟨e.1.symm, e.2.symm⟩, i1, i2⟩, ?_⟩
        repeat' (first | (refine And.intro ?_ ?_) | (intro _) | exact rfl)
    refine fun (io : Plc × Plc) hio => ?_
    obtain ⟨I, O⟩ := io
    obtain ⟨⟨eI, eO⟩, rI, rO⟩ : (I = inP p.y (q.y - p.y) low.y high.y ∧ O = outP p.y (q.y - p.y) low.y high.y) ∧ Rb I ∧ Rb O := hio
    refine Exists.intro (ar15 low high p q 1 x.2 O fun y => y = maxP I x.1) ?_
    refine And.intro ?_ ?_
    · refine And.intro ⟨plV_of I, plV_of x.1, rI.v, rx.1.v⟩ ?_
      refine And.intro (fun hf => ?_) (fun hf => ?_)
      · have hf : decide (0 < refC (plV (plS I)) (plV (plS x.1))) = true := hf
        rw [cmpR rI rx.1] at hf
        refine ⟨I, [(4, 5)], [], trivial, ⟨by unfold maxP; rw [hf], rI⟩, ?_⟩
        repeat' (first | (refine And.intro ?_ ?_) | (intro _) | exact rfl)
      · have hf : decide (0 < refC (plV (plS I)) (plV (plS x.1))) = false := hf
        rw [cmpR rI rx.1] at hf
        refine ⟨x.1, [(4, 5)], [], trivial, ⟨by unfold maxP; rw [hf], rx.1⟩, ?_⟩
        repeat' (first | (refine And.intro ?_ ?_) | (intro _) | exact rfl)
    refine fun (F : Plc) hF => ?_
    obtain ⟨eF, rF⟩ : F = maxP I x.1 ∧ Rb F := hF
    refine And.intro ⟨plV_of O, plV_of x.2, rO.v, rx.2.v⟩ ?_
    refine And.intro (fun hl => ?_) (fun hl => ?_)
    · have hl : decide (refC (plV (plS O)) (plV (plS x.2)) < 0) = true := hl
      rw [cmpR rO rx.2] at hl
      refine ⟨(F, O), [], [], trivial, ⟨?_, rF, rO⟩, ?_⟩
      · show axis p.y (q.y - p.y) low.y high.y x = some (F, O)
        unfold axis; rw [ho, hz, eF, eI, eO]; rw [eO] at hl; simp only [minP, hl]
      · repeat' (first | (refine And.intro ?_ ?_) | (intro _) | exact rfl)
    · have hl : decide (refC (plV (plS O)) (plV (plS x.2)) < 0) = false := hl
      rw [cmpR rO rx.2] at hl
      refine ⟨(F, x.2), [], [], trivial, ⟨?_, rF, rx.2⟩, ?_⟩
      · show axis p.y (q.y - p.y) low.y high.y x = some (F, x.2)
        unfold axis; rw [ho, hz, eF, eI]; rw [eO] at hl; simp only [minP, hl]
      · repeat' (first | (refine And.intro ?_ ?_) | (intro _) | exact rfl)
  refine fun (y : Plc × Plc) hy => ?_
  obtain ⟨hy, ry⟩ : axis p.y (q.y - p.y) low.y high.y x = some y ∧ Rb y.1 ∧ Rb y.2 := hy
  refine And.intro ⟨plV_of y.1, plV_of y.2, ry.1.v, ry.2.v⟩ ?_
  have nn : enterN low high p q = false := by unfold enterN; rw [hx]; simp only; rw [hy]
  have he : enterP low high p q = (y.1, decide (ordP y.1 y.2 ≤ 0)) := by unfold enterP; rw [hx]; simp only; rw [hy]
  have hs : areaS low high p q = .tup [plS y.1, .v (.bool (decide (refC (plV (plS y.1)) (plV (plS y.2)) ≤ 0)))] := by unfold areaS; rw [nn, he, cmpR ry.1 ry.2]
  simp only [hs]
  repeat' (first | (refine And.intro ?_ ?_) | (intro _) | exact rfl)
def arIn (a : Vec × Vec × Vec × Vec) : List Prop := [a.1.In, a.2.1.In, a.2.2.1.In, a.2.2.2.In]
noncomputable def conAreaY : Con cx := walkCon 51 Tryz.call51 (rds4 rdVec rdVec rdVec rdVec) (fun a => [a.1.In, a.2.1.In, a.2.2.1.In, a.2.2.2.In, enterN a.1 a.2.1 a.2.2.1 a.2.2.2 = false]) (fun a => .tup [plS (enterP a.1 a.2.1 a.2.2.1 a.2.2.2).1, .v (.bool (enterP a.1 a.2.1 a.2.2.1 a.2.2.2).2)]) (fun _ => ⟨[17], [13, 15, 5], [], 3⟩) [17] (fun _ => rfl) follows Tryz.func51 (by kernel_rfl) (fun a ⟨h1, h2, h3, h4, h5⟩ => by
    have h5 : enterN a.1 a.2.1 a.2.2.1 a.2.2.2 = false := h5
    have := RArea_walk a ⟨h1, h2, h3, h4⟩
    rw [show areaS a.1 a.2.1 a.2.2.1 a.2.2.2 = .tup [plS (enterP a.1 a.2.1 a.2.2.1 a.2.2.2).1, .v (.bool (enterP a.1 a.2.1 a.2.2.1 a.2.2.2).2)] by unfold areaS; rw [h5]] at this
    exact this)
noncomputable def conAreaN : Con cx := walkCon 51 Tryz.call51 (rds4 rdVec rdVec rdVec rdVec) (fun a => [a.1.In, a.2.1.In, a.2.2.1.In, a.2.2.2.In, enterN a.1 a.2.1 a.2.2.1 a.2.2.2 = true]) (fun _ => .tup [nilP, .bl false]) (fun _ => ⟨[17], [13, 15, 5], [], 3⟩) [17] (fun _ => rfl) follows Tryz.func51 (by kernel_rfl) (fun a ⟨h1, h2, h3, h4, h5⟩ => by
    have h5 : enterN a.1 a.2.1 a.2.2.1 a.2.2.2 = true := h5
    have := RArea_walk a ⟨h1, h2, h3, h4⟩
    rw [show areaS a.1 a.2.1 a.2.2.1 a.2.2.2 = .tup [nilP, .bl false] by unfold areaS; rw [h5]] at this
    exact this)
end Go.Proofs.YtcojfohjdibjjaaGreatDoor
