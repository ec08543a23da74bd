/- The package variable of the layer; readers of lists. -/
import Derived.Test.YtinefblphbicaaaDoorG20
import Derived.Test.YtinefblphbicaaaDoorH17
namespace Go.Proofs.YtinefblphbicaaaDoor
open Go.ChangeShapes Go.WideShapes Go.ChangeAt Go.RowKit

def laidCosts : List (String × DataW Unit) := [("marches/defence.costs", Rows.laid_marches_defence_costs)]
theorem door_met (os : Os) (args : Array Value) : laidMetH Tryd.prog laidCosts ((World.doorLaid Tryd.prog 16 os).forCall (fun _ _ => 0) ⟨#[], args, []⟩).memory :=
  laidMetH_of_parts3 (fuel := 8) (laidMet_of_run' 8 (by kernel_rfl) (by kernel_rfl)) (by kernel_rfl) (by kernel_rfl)
def costsL : List Int := [0, 0, 2, 5, 10, 10, 2, 20]
theorem grd_of_laid {W : World} (h : laidMetH Tryd.prog laidCosts W) : cx.Grd W := by
  have hc := laid_ints (n := "marches/defence.costs") (g := 0) (t := 68) (e := 3) (m := 8) (k := .i64) (vals := costsL) h rfl (by kernel_rfl) (by kernel_rfl) Tryd.underlying68 Tryd.underlying3 (by kernel_rfl)
  have h0 : W.cell? ⟨0, 0, none⟩ = some (.int .i64 0) := hc 0 _ rfl
  refine ⟨cell_lt h0, fun b sb hb => ?_⟩
  by_cases e : 0 = b
  · subst e
    have hb : look ground 0 = some sb := hb
    obtain rfl := Option.some.inj ((show look ground 0 = some _ from rfl).symm.trans hb)
    refine ⟨Nat.zero_lt_one, costsL.map fun x => Value.int .i64 x, ?_, fun i v hv => hc i v hv⟩
    repeat' (first | exact rfl | (refine denL_cons_of ?_ ?_))
  · have hb : look ground b = some sb := hb
    unfold ground at hb
    rw [look_cons_ne _ _ e] at hb
    cases hb
/-- A list of inputs. -/
def rdInputs : Rd (Nat × (Nat → Input)) := ⟨.rs 10 0 fun _ => [.v (.int .i64 0), .v (.int .i64 0), .v (.int .i64 0), .v (.int .i64 0), .v (.int .i64 0), .v (.bool false), .v (.int .i64 0), .v (.int .i64 0), .v (.int .i64 0), .v (.int .i64 0)], fun x => (x.rn, fun i => Input.of (.agg (x.rf i))), fun a => .rs 10 a.1 fun i => (a.2 i).cells, fun _ => rfl⟩
def ptInput : List Pt := [.int .i64, .int .i64, .int .i64, .int .i64, .int .i64, .bool, .int .i64, .int .i64, .int .i64, .int .i64]
end Go.Proofs.YtinefblphbicaaaDoor
