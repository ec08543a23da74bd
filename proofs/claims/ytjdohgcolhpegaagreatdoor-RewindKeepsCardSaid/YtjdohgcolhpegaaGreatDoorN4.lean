/- rewind.Judge. The law's examples: awake. The package variable as it is laid; worlds and histories that Go can have. -/
import Derived.Test.YtjdohgcolhpegaaGreatDoorN3
import Derived.Test.YtjdohgcolhpegaaGreatDoorG21
namespace Go.Proofs.YtjdohgcolhpegaaGreatDoor
open Go.RowKit

noncomputable def inJ1 : FnI cx := ⟨33, Tryz.call33, Tryz.f33, Tryz.func33, [], [], [], 0, by kernel_rfl⟩
noncomputable def inJ2 : FnI cx := ⟨35, Tryz.call35, Tryz.f35, Tryz.func35, [], [], [], 0, by kernel_rfl⟩
noncomputable def inJ3 : FnI cx := ⟨36, Tryz.call36, Tryz.f36, Tryz.func36, [], [], [], 0, by kernel_rfl⟩
noncomputable def conWValidW : Con cx := { conWValid with wr := true }
def timeW (i : Df.Input) : Int := IntKind.i64.wrap (IntKind.i64.wrap (16 * i.seen) + i.part)
def jB1 (h : Wrs) (w : Wor) (i : Df.Input) : Bool := !w.valid || !histB h || !fitsB i.client i
def jFrom (w : Wor) (id : Int) : Vec := ⟨(getE w id 1).1.v0, (getE w id 1).1.v1⟩
def jB2 (w : Wor) (id : Int) (i : Df.Input) : Bool := !(getE w id 1).2 || !(getE w id 4).2 || decide (¬ (getE w id 4).1.v0 = i.client)
def jB3 (w : Wor) (i : Df.Input) : Bool := decide (i.seen < IntKind.i64.wrap (w.tick - 16)) || decide (IntKind.i64.wrap (16 * w.tick) < timeW i)
def judgeE (h : Wrs) (w : Wor) (id : Int) (i : Df.Input) : Hit × Int := match jB1 h w i with
  | true => (Hit.no, 2)
  | false => match jB2 w id i with
    | true => (Hit.no, 6)
    | false => match jB3 w i with
      | true => (Hit.no, 290)
      | false => match !(getE w (seeE h i.client (jFrom w id) i).1.id 8).2 with
        | true => (⟨(seeE h i.client (jFrom w id) i).1.id, (seeE h i.client (jFrom w id) i).1.at_, false⟩, (seeE h i.client (jFrom w id) i).2)
        | false => seeE h i.client (jFrom w id) i
set_option maxHeartbeats 8000000 in
set_option maxRecDepth 8000 in
theorem Judge_walk : ∀ a, conj ((fun (a : Wrs × Wor × Int × Df.Input) => [a.1.Sm, a.2.1.l.Sm, ∀ k, k < a.1.n → (a.1.w k).l.n ≤ 12]) a) → evFn (C := cx) [conWValidW, conHValid, conRFits, conGet, conSee] [inJ1, inJ2, inJ3] 1 ⟨[], [], [], 5⟩ Tryz.f13 ((rds4 rdWrs rdWor (rdI .i64) Df.rdInput).enc a) fun v H _ => resOut ((fun a => .tup [(judgeE a.1 a.2.1 a.2.2.1 a.2.2.2).1.sv, .v (.int .i64 (judgeE a.1 a.2.1 a.2.2.1 a.2.2.2).2)]) a) H v := by
  intro ⟨h, w, id, i⟩ ⟨hm, hw, h12⟩
  replace hm : h.Sm := hm
  replace hw : w.l.Sm := hw
  replace h12 : ∀ k, k < h.n → (h.w k).l.n ≤ 12 := h12
  refine And.intro ⟨fun _ _ _ _ => trivial, hw⟩ ?_
  refine And.intro (fun _ => ⟨fun _ _ _ _ _ _ => trivial, hm⟩) ?_
  refine And.intro (fun hv => ?_) (fun hv => ?_)
  · have hv : jB1 h w i = true := hv
    have e : judgeE h w id i = (Hit.no, 2) := by unfold judgeE; rw [hv]
    simp only [e]
    repeat' (first | (refine And.intro ?_ ?_) | (intro _) | exact rfl)
  have hv : jB1 h w i = false := hv
  refine And.intro ⟨fun _ _ _ _ => trivial, hw⟩ ?_
  refine And.intro ⟨fun _ _ _ _ => trivial, hw⟩ ?_
  refine And.intro (fun hx => ?_) (fun hx => ?_)
  · have hx : jB2 w id i = true := hx
    have e : judgeE h w id i = (Hit.no, 6) := by unfold judgeE; rw [hv, hx]
    simp only [e]
    repeat' (first | (refine And.intro ?_ ?_) | (intro _) | exact rfl)
  have hx : jB2 w id i = false := hx
  refine And.intro (fun hy => ?_) (fun hy => ?_)
  · have hy : jB3 w i = true := hy
    have e : judgeE h w id i = (Hit.no, 290) := by unfold judgeE; rw [hv, hx, hy]
    simp only [e]
    repeat' (first | (refine And.intro ?_ ?_) | (intro _) | exact rfl)
  have hy : jB3 w i = false := hy
  refine And.intro ⟨fun _ _ _ _ _ _ => trivial, hm, h12⟩ ?_
  refine And.intro ⟨fun _ _ _ _ => trivial, hw⟩ ?_
  refine And.intro (fun hz => ?_) (fun hz => ?_)
  · have hz : (!(getE w (seeE h i.client (jFrom w id) i).1.id 8).2) = true := hz
    have e : judgeE h w id i = (⟨(seeE h i.client (jFrom w id) i).1.id, (seeE h i.client (jFrom w id) i).1.at_, false⟩, (seeE h i.client (jFrom w id) i).2) := by unfold judgeE; rw [hv, hx, hy, hz]
    simp only [e]
    repeat' (first | (refine And.intro ?_ ?_) | (intro _) | exact rfl)
  · have hz : (!(getE w (seeE h i.client (jFrom w id) i).1.id 8).2) = false := hz
    have e : judgeE h w id i = seeE h i.client (jFrom w id) i := by unfold judgeE; rw [hv, hx, hy, hz]
    simp only [e]
    repeat' (first | (refine And.intro ?_ ?_) | (intro _) | exact rfl)
noncomputable def conJudge : Con cx := walkCon 13 Tryz.call13 (rds4 rdWrs rdWor (rdI .i64) Df.rdInput) (fun (a : Wrs × Wor × Int × Df.Input) => [a.1.Sm, a.2.1.l.Sm, ∀ k, k < a.1.n → (a.1.w k).l.n ≤ 12]) (fun a => .tup [(judgeE a.1 a.2.1 a.2.2.1 a.2.2.2).1.sv, .v (.int .i64 (judgeE a.1 a.2.1 a.2.2.1 a.2.2.2).2)]) (fun _ => ⟨[], [], [], 5⟩) [] (fun _ => rfl) follows Tryz.func13 (by kernel_rfl) Judge_walk
end Go.Proofs.YtjdohgcolhpegaaGreatDoor
namespace Go.Proofs.YtjdohgcolhpegaaGreatDoor
open Go.RowKit

theorem scene_sm {t y : Int} : (sceneW t y).l.Sm := by
  refine ⟨(by show ((2 : Nat) : Int) ≤ bigN; unfold bigN; decide), al2 ⟨(by show ((2 : Nat) : Int) ≤ bigN; unfold bigN; decide), al2 ?_ ?_⟩ ⟨(by show ((3 : Nat) : Int) ≤ bigN; unfold bigN; decide), al3 ?_ ?_ ?_⟩⟩
  · show (0 : Int) ≤ 1 ∧ (1 : Int) ≤ 255; decide
  · show (0 : Int) ≤ 4 ∧ (4 : Int) ≤ 255; decide
  · show (0 : Int) ≤ 1 ∧ (1 : Int) ≤ 255; decide
  · show (0 : Int) ≤ 3 ∧ (3 : Int) ≤ 255; decide
  · show (0 : Int) ≤ 8 ∧ (8 : Int) ≤ 255; decide
theorem two_big : ((2 : Nat) : Int) ≤ bigN := by unfold bigN; decide
noncomputable def inAw1 : FnI cx := ⟨32, Tryz.call32, Tryz.f32, Tryz.func32, [], [], [], 0, by kernel_rfl⟩
/-- Contracts whose values are not looked into. -/
noncomputable def conJudgeV (J : Wrs → Wor → Int → Df.Input → Hit × Int) (hJ : J = judgeE) : Con cx := walkCon 13 Tryz.call13 (rds4 rdWrs rdWor (rdI .i64) Df.rdInput) (fun (a : Wrs × Wor × Int × Df.Input) => [a.1.Sm, a.2.1.l.Sm, ∀ k, k < a.1.n → (a.1.w k).l.n ≤ 12]) (fun a => .tup [(J a.1 a.2.1 a.2.2.1 a.2.2.2).1.sv, .v (.int .i64 (J a.1 a.2.1 a.2.2.1 a.2.2.2).2)]) (fun _ => ⟨[], [], [], 5⟩) [] (fun _ => rfl) follows Tryz.func13 (by kernel_rfl) (by subst hJ; exact Judge_walk)
noncomputable def conHurtV (V : Wor → Int → Int → Wor × Int) (hV : V = hurtE) : Con cx := walkCon 17 Tryz.call17 (rds3 rdWor (rdI .i64) (rdI .i64)) (fun (a : Wor × Int × Int) => [a.1.l.Sm]) (fun a => .tup [(V a.1 a.2.1 a.2.2).1.sv, .v (.int .i64 (V a.1 a.2.1 a.2.2).2)]) (fun _ => noHow) [] (fun _ => rfl) follows Tryz.func17 (by kernel_rfl) (by subst hV; exact Hurt_walk)
/-- The examples' worlds. -/
def awCs : List SV := (sceneW 30 10).cells ++ (sceneW 32 (-10)).cells
def awH : Wrs := ⟨2, fun i => Wor.of (.agg (chunk (List.drop 0 awCs) 2 i))⟩
def awW : Wor := sceneW 34 (-40)
def awI (s : Int) : Df.Input := ⟨2, 0, 0, 0, 0, true, 100, 0, s, 0⟩
def awS : Nat → Int
  | 0 => 31
  | 1 => 30
  | 2 => 17
  | 3 => 35
  | _ => 33
def eqH (h : Hit) : Bool := decide (h.id = 0) && (decide (h.at_ = 0) && (h.alive == false))
def awSl (r : Nat → Hit × Int) : Nat → List (Nat × Slot)
  | 0 => [sl 1 (.p 1 0), sl 2 (.p 2 0), sl 3 (.f (.func 32) [] [.p 1 0, .p 2 0])]
  | k + 1 => sl (4 + 2 * k) (.p (3 + k) 0) :: sl (5 + 2 * k) (.v (.int .i64 (r k).2)) :: awSl r k
def awHp (r : Nat → Hit × Int) : Nat → Heap
  | 0 => [(0, .lay awCs 25), (1, .lay [.s 0 2 0 2 2] 22), (2, .lay awW.cells 25)]
  | k + 1 => (3 + k, .lay (r k).1.cells 39) :: awHp r k
def awC (J : Wrs → Wor → Int → Df.Input → Hit × Int) (n : Nat) : Cut := ⟨Nat → Hit × Int, fun r => ∀ k, k < n → r k = J awH awW 1 (awI (awS k)), fun r => ⟨awSl r n, awHp r n, 3 + n, 0, [], []⟩, fun _ => 0⟩
theorem awH_sm : awH.Sm := ⟨two_big, al2 (scene_sm (t := 30) (y := 10)) (scene_sm (t := 32) (y := -10))⟩
theorem awH_12 : ∀ k, k < awH.n → (awH.w k).l.n ≤ 12 := al2 (by show 2 ≤ 12; decide) (by show 2 ≤ 12; decide)
theorem awW_sm : awW.l.Sm := scene_sm
theorem aw_al : ∀ i, i < 2 → conjO (alikeCL patW (chunk (List.drop 0 awCs) 2 i)) := al2 (fun _ _ _ _ => trivial) (fun _ _ _ _ => trivial)
/-- One more result. -/
def snoc (r : Nat → Hit × Int) (n : Nat) (x : Hit × Int) : Nat → Hit × Int := fun k => bif Nat.beq k n then x else r k
set_option maxHeartbeats 2000000 in
set_option maxRecDepth 8000 in
theorem Awake29_ev (J : Wrs → Wor → Int → Df.Input → Hit × Int) (hJ : J = judgeE) (V : Wor → Int → Int → Wor × Int) (hV : V = hurtE) : evFn (C := cx) [conScene, conJudgeV J hJ, conHurtV V hV, conComp29] [inAw1] 1 ⟨[], [3, 4, 5, 6, 7, 8], [], 0⟩ Tryz.f10 (rds0.enc ()) fun v H _ => resOut (.bl true) H v := by
  refine Exists.intro (awC J 0) ?_
  refine And.intro ?_ ?_
  · refine ⟨fun _ => (Hit.no, 0), [], [], trivial, fun k h => absurd h (Nat.not_lt_zero k), ?_⟩
    repeat' (first | (refine And.intro ?_ ?_) | (intro _) | exact rfl)
  refine fun (r : Nat → Hit × Int) (hr : ∀ k, k < 0 → r k = J awH awW 1 (awI (awS k))) => ?_
  refine Exists.intro (awC J 1) ?_
  refine And.intro ?_ ?_
  · refine And.intro ⟨aw_al, fun _ _ _ _ => trivial, awH_sm, awW_sm, awH_12⟩ ?_
    refine ⟨fun k => bif Nat.beq k 0 then J awH awW 1 (awI (awS 0)) else r k, [(3, 4)], [], trivial, ?_, ?_⟩
    · intro k hk
      by_cases e : k = 0
      · subst e; rfl
      · show (bif Nat.beq k 0 then J awH awW 1 (awI (awS 0)) else r k) = _
        rw [beq_no e]; exact hr k (by omega)
    repeat' (first | (refine And.intro ?_ ?_) | (intro _) | exact rfl)
  refine fun (r : Nat → Hit × Int) (hr : ∀ k, k < 1 → r k = J awH awW 1 (awI (awS k))) => ?_
  refine Exists.intro (awC J 2) ?_
  refine And.intro ?_ ?_
  · refine And.intro ⟨aw_al, fun _ _ _ _ => trivial, awH_sm, awW_sm, awH_12⟩ ?_
    refine ⟨fun k => bif Nat.beq k 1 then J awH awW 1 (awI (awS 1)) else r k, [(4, 5)], [], trivial, ?_, ?_⟩
    · intro k hk
      by_cases e : k = 1
      · subst e; rfl
      · show (bif Nat.beq k 1 then J awH awW 1 (awI (awS 1)) else r k) = _
        rw [beq_no e]; exact hr k (by omega)
    repeat' (first | (refine And.intro ?_ ?_) | (intro _) | exact rfl)
  refine fun (r : Nat → Hit × Int) (hr : ∀ k, k < 2 → r k = J awH awW 1 (awI (awS k))) => ?_
  refine Exists.intro (awC J 3) ?_
  refine And.intro ?_ ?_
  · refine And.intro ⟨aw_al, fun _ _ _ _ => trivial, awH_sm, awW_sm, awH_12⟩ ?_
    refine ⟨fun k => bif Nat.beq k 2 then J awH awW 1 (awI (awS 2)) else r k, [(5, 6)], [], trivial, ?_, ?_⟩
    · intro k hk
      by_cases e : k = 2
      · subst e; rfl
      · show (bif Nat.beq k 2 then J awH awW 1 (awI (awS 2)) else r k) = _
        rw [beq_no e]; exact hr k (by omega)
    repeat' (first | (refine And.intro ?_ ?_) | (intro _) | exact rfl)
  refine fun (r : Nat → Hit × Int) (hr : ∀ k, k < 3 → r k = J awH awW 1 (awI (awS k))) => ?_
  refine Exists.intro (awC J 4) ?_
  refine And.intro ?_ ?_
  · refine And.intro ⟨aw_al, fun _ _ _ _ => trivial, awH_sm, awW_sm, awH_12⟩ ?_
    refine ⟨fun k => bif Nat.beq k 3 then J awH awW 1 (awI (awS 3)) else r k, [(6, 7)], [], trivial, ?_, ?_⟩
    · intro k hk
      by_cases e : k = 3
      · subst e; rfl
      · show (bif Nat.beq k 3 then J awH awW 1 (awI (awS 3)) else r k) = _
        rw [beq_no e]; exact hr k (by omega)
    repeat' (first | (refine And.intro ?_ ?_) | (intro _) | exact rfl)
  refine fun (r : Nat → Hit × Int) (hr : ∀ k, k < 4 → r k = J awH awW 1 (awI (awS k))) => ?_
  refine Exists.intro (awC J 5) ?_
  refine And.intro ?_ ?_
  · refine And.intro ⟨aw_al, fun _ _ _ _ => trivial, awH_sm, awW_sm, awH_12⟩ ?_
    refine ⟨fun k => bif Nat.beq k 4 then J awH awW 1 (awI (awS 4)) else r k, [(7, 8)], [], trivial, ?_, ?_⟩
    · intro k hk
      by_cases e : k = 4
      · subst e; rfl
      · show (bif Nat.beq k 4 then J awH awW 1 (awI (awS 4)) else r k) = _
        rw [beq_no e]; exact hr k (by omega)
    repeat' (first | (refine And.intro ?_ ?_) | (intro _) | exact rfl)
  refine fun (r : Nat → Hit × Int) (hr : ∀ k, k < 5 → r k = J awH awW 1 (awI (awS k))) => ?_
  refine And.intro ⟨fun _ _ _ _ => trivial, awW_sm⟩ ?_
  have v1 : (V awW 5 8).1.l.n = 2 := by rw [hV]; kernel_rfl
  have v2 : ((V awW 5 8).1.l.e 1).l.n = 3 := by rw [hV]; kernel_rfl
  have p1 : (0 : Int) ≤ 1 ∧ (1 : Int) < ((V awW 5 8).1.l.n : Nat) := by rw [v1]; decide
  have p2 : (0 : Int) ≤ 2 ∧ (2 : Int) < (((V awW 5 8).1.l.e 1).l.n : Nat) := by rw [v2]; decide
  refine And.intro (fun _ => p1) ?_
  refine And.intro (fun _ => p2) ?_
  refine And.intro (fun _ => al2 trivial trivial) ?_
  refine Eq.trans (a := true) (b := ((((((((((decide ((r 0).2 = 0) && decide ((r 0).1.id = 5)) && (r 0).1.alive) && decide ((r 1).2 = 0)) && eqH (r 1).1) && decide ((r 2).2 = 290)) && decide ((r 3).2 = 290)) && decide ((r 4).2 = 291)) && decide ((V awW 5 8).2 = 0)) && decide (((V awW 5 8).1.l.n : Int) = 2)) && eqC (((V awW 5 8).1.l.e 1).l.c 2) ⟨8, 5, 3, 0, 0⟩)) ?_ ?_
  · rw [hr 0 (by omega), hr 1 (by omega), hr 2 (by omega), hr 3 (by omega), hr 4 (by omega), hJ, hV]
    kernel_rfl
  · exact rfl
theorem Awake29_walk : ∀ a, conj ((fun (_ : Unit) => []) a) → evFn (C := cx) [conScene, conJudgeV judgeE rfl, conHurtV hurtE rfl, conComp29] [inAw1] 1 ⟨[], [3, 4, 5, 6, 7, 8], [], 0⟩ Tryz.f10 (rds0.enc a) fun v H _ => resOut ((fun _ => .bl true) a) H v := fun _ _ => Awake29_ev judgeE rfl hurtE rfl
noncomputable def conAwake29 : Con cx := walkCon 10 Tryz.call10 rds0 (fun _ => []) (fun _ => .bl true) (fun _ => ⟨[], [3, 4, 5, 6, 7, 8], [], 0⟩) [] (fun _ => rfl) follows Tryz.func10 (by kernel_rfl) Awake29_walk
end Go.Proofs.YtjdohgcolhpegaaGreatDoor
namespace Go.Proofs.YtjdohgcolhpegaaGreatDoor
open Go.ChangeShapes Go.WideShapes Go.ChangeAt Go.RowKit

def laidRw : List (String × DataW Unit) := [("marches/store.ranges", Rows.laid_marches_store_ranges)]
theorem door_met (os : Os) (args : Array Value) : laidMetH Tryz.prog laidRw ((World.doorLaid Tryz.prog 165 os).forCall (fun _ _ => 0) ⟨#[], args, []⟩).memory :=
  laidMetH_of_parts3 (fuel := 8) (laidMet_of_run' 8 (by kernel_rfl) (by kernel_rfl)) (by kernel_rfl) (by kernel_rfl)
def rangesL : List Int := [0, 0, 0, 0, 0, 0, 0, 0, -1048576, 1048576, -1048576, 1048576, 0, 0, 0, 0, -4096, 4096, -4096, 4096, 0, 0, 0, 0, 1, 16384, 1, 16384, 0, 1, 0, 1, 1, 8, 0, 0, 0, 0, 0, 0, 0, 510, 0, 0, 0, 0, 0, 0, 0, 15, 0, 0, 0, 0, 0, 0, -2147483648, 2147483647, -2147483648, 2147483647, -2147483648, 2147483647, -2147483648, 2147483647, 0, 1048576, 0, 1048576, 0, 0, 0, 0, 0, 2147483647, 0, 2147483647, 0, 2147483647, 0, 2147483647, -2147483648, 2147483647, -2147483648, 2147483647, -2147483648, 2147483647, -2147483648, 2147483647]
theorem grd_of_laid {W : World} (h : laidMetH Tryz.prog laidRw W) : cx.Grd W := by
  have h0 := laid_cells (C := cx) (n := "marches/store.ranges") (g := 0) (t := 136) (vs := rangesL.map (Value.int .i64)) h (List.mem_cons_self ..) rfl (by kernel_rfl) (by kernel_rfl) (by kernel_rfl)
  have c1 : W.cell? ⟨0, 0, none⟩ = some (.int .i64 0) := h0 0 _ rfl
  refine ⟨cell_lt c1, fun b sb hb => ?_⟩
  have hb : look ground b = some sb := hb
  by_cases e : 0 = b
  · subst e
    obtain rfl := Option.some.inj ((show look ground 0 = some _ from rfl).symm.trans hb)
    refine ⟨(by decide : 0 < 0 + 1), rangesL.map (Value.int .i64), ?_, fun i v hv => h0 i v hv⟩
    repeat' (first | exact rfl | (refine denL_cons_of ?_ ?_))
  · unfold ground at hb
    rw [look_cons_ne _ _ e] at hb
    cases hb
def ptC : List Pt := [.int .u8, .int .i64, .int .i64, .int .i64, .int .i64]
def ptE : List Pt := [.int .i64, .sl 5 ptC]
def ptW : List Pt := [.int .i64, .sl 2 ptE]
theorem cms_fit {l : Cms} (h : Fit (.sl 5 ptC) l.sv) : l.Sm := by
  obtain ⟨-, h1, h2⟩ := h
  simp only [maxLen] at h1
  refine ⟨?_, fun i hi => ?_⟩
  · show (l.n : Int) ≤ 9223372036854775807
    omega
  · have h : 0 ≤ (l.c i).kind ∧ (l.c i).kind ≤ 255 := (h2 i hi).1.2
    exact h
theorem ens_fit {l : Ens} (h : Fit (.sl 2 ptE) l.sv) : l.Sm := by
  obtain ⟨-, h1, h2⟩ := h
  simp only [maxLen] at h1
  refine ⟨?_, fun i hi => ?_⟩
  · show (l.n : Int) ≤ 9223372036854775807
    omega
  · exact cms_fit (h2 i hi).2.1
theorem wrs_fit {l : Wrs} (h : Fit (.sl 2 ptW) l.sv) : l.Sm := by
  obtain ⟨-, h1, h2⟩ := h
  simp only [maxLen] at h1
  refine ⟨?_, fun i hi => ?_⟩
  · show (l.n : Int) ≤ 9223372036854775807
    omega
  · exact ens_fit (h2 i hi).2.1
end Go.Proofs.YtjdohgcolhpegaaGreatDoor
