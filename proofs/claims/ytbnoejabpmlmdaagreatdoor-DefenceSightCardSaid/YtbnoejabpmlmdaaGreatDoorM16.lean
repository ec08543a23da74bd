/- The package variables as they are laid; worlds that Go can have. -/
import Derived.Test.YtbnoejabpmlmdaaGreatDoorG21
import Derived.Test.YtbnoejabpmlmdaaGreatDoorM2
namespace Go.Proofs.YtbnoejabpmlmdaaGreatDoor
open Go.ChangeShapes Go.WideShapes Go.ChangeAt Go.RowKit

def laidSight : List (String × DataW Unit) := [("marches/store.ranges", Rows.laid_marches_store_ranges), ("marches/defence.costs", Rows.laid_marches_defence_costs)]
theorem door_met (os : Os) (args : Array Value) : laidMetH Tryz.prog laidSight ((World.doorLaid Tryz.prog 109 os).forCall (fun _ _ => 0) ⟨#[], args, []⟩).memory :=
  laidMetH_of_parts3 (fuel := 8) (laidMet_of_run' 8 (by kernel_rfl) (by kernel_rfl)) (by kernel_rfl) (by kernel_rfl)
def rangesL : List Int := [0, 0, 0, 0, 0, 0, 0, 0, -1048576, 1048576, -1048576, 1048576, 0, 0, 0, 0, -4096, 4096, -4096, 4096, 0, 0, 0, 0, 1, 16384, 1, 16384, 0, 1, 0, 1, 1, 8, 0, 0, 0, 0, 0, 0, 0, 510, 0, 0, 0, 0, 0, 0, 0, 15, 0, 0, 0, 0, 0, 0, -2147483648, 2147483647, -2147483648, 2147483647, -2147483648, 2147483647, -2147483648, 2147483647, 0, 1048576, 0, 1048576, 0, 0, 0, 0, 0, 2147483647, 0, 2147483647, 0, 2147483647, 0, 2147483647, -2147483648, 2147483647, -2147483648, 2147483647, -2147483648, 2147483647, -2147483648, 2147483647]
def costsL : List Int := [0, 0, 2, 5, 10, 10, 2, 20]
theorem grd_of_laid {W : World} (h : laidMetH Tryz.prog laidSight W) : cx.Grd W := by
  have h0 := laid_cells (C := cx) (n := "marches/store.ranges") (g := 0) (t := 145) (vs := rangesL.map (Value.int .i64)) h (List.mem_cons_self ..) rfl (by kernel_rfl) (by kernel_rfl) (by kernel_rfl)
  have h1 := laid_cells (C := cx) (n := "marches/defence.costs") (g := 1) (t := 150) (vs := costsL.map (Value.int .i64)) h (List.mem_cons_of_mem _ (List.mem_cons_self ..)) rfl (by kernel_rfl) (by kernel_rfl) (by kernel_rfl)
  have c1 : W.cell? ⟨1, 0, none⟩ = some (.int .i64 0) := h1 0 _ rfl
  refine ⟨cell_lt c1, fun b sb hb => ?_⟩
  have hb : look ground b = some sb := hb
  by_cases e : 0 = b
  · subst e
    obtain rfl := Option.some.inj ((show look ground 0 = some _ from rfl).symm.trans hb)
    refine ⟨(by decide : 0 < 1 + 1), rangesL.map (Value.int .i64), ?_, fun i v hv => h0 i v hv⟩
    repeat' (first | exact rfl | (refine denL_cons_of ?_ ?_))
  · by_cases e2 : 1 = b
    · subst e2
      obtain rfl := Option.some.inj ((show look ground 1 = some _ from rfl).symm.trans hb)
      refine ⟨(by decide : 1 < 1 + 1), costsL.map (Value.int .i64), ?_, fun i v hv => h1 i v hv⟩
      repeat' (first | exact rfl | (refine denL_cons_of ?_ ?_))
    · unfold ground at hb
      rw [look_cons_ne _ _ e, look_cons_ne _ _ e2] at hb
      cases hb
def ptC : List Pt := [.int .u8, .int .i64, .int .i64, .int .i64, .int .i64]
def ptE : List Pt := [.int .i64, .sl 5 ptC]
def ptW : List Pt := [.int .i64, .sl 2 ptE]
theorem cms_fit {l : Cms} (h : Fit (.sl 5 ptC) l.sv) : l.Sm := by
  obtain ⟨-, h1, h2⟩ := h
  simp only [maxLen] at h1
  refine ⟨?_, fun i hi => ?_⟩
  · show (l.n : Int) ≤ 9223372036854775807
    omega
  · have h : 0 ≤ (l.c i).kind ∧ (l.c i).kind ≤ 255 := (h2 i hi).1.2
    exact h
theorem ens_fit {l : Ens} (h : Fit (.sl 2 ptE) l.sv) : l.Sm := by
  obtain ⟨-, h1, h2⟩ := h
  simp only [maxLen] at h1
  refine ⟨?_, fun i hi => ?_⟩
  · show (l.n : Int) ≤ 9223372036854775807
    omega
  · exact cms_fit (h2 i hi).2.1
end Go.Proofs.YtbnoejabpmlmdaaGreatDoor
