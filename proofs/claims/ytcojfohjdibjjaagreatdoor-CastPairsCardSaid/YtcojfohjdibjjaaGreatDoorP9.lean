/- Two bodies: the program against the reference. The package variables as they are laid. -/
import Derived.Test.YtcojfohjdibjjaaGreatDoorP8
import Derived.Test.YtcojfohjdibjjaaGreatDoorG21
namespace Go.Proofs.YtcojfohjdibjjaaGreatDoor
open Go.RowKit

theorem two_t (x y z w : Int) (m k : Bool) : true = (decide (x = x) && decide (y = y) && decide (z = z) && decide (w = w) && (m == m) && (k == k)) := by
  cases m <;> cases k <;> simp
set_option maxHeartbeats 4000000 in
set_option maxRecDepth 8000 in
theorem Two_walk : ∀ a, conj ((fun (_ : Body × Body × Vec × Vec) => []) a) → evFn (C := cx) [conPart, conRPart, conBefore, conRBefore, conMeets, conRMeets] [] 0 noHow Tryz.f4 ((rds4 rdBody rdBody rdVec rdVec).enc a) fun v H _ => resOut (.v (.bool true)) H v := by
  intro ⟨a, b, p, q⟩ _
  exact two_t (partE a p q).1 (partE a p q).2 (beforeE a b p q).1 (beforeE a b p q).2 (meetsB a p q) (meetsB b p q)
noncomputable def conTwo : Con cx := walkCon 4 Tryz.call4 (rds4 rdBody rdBody rdVec rdVec) (fun _ => []) (fun _ => .v (.bool true)) (fun _ => noHow) [] (fun _ => rfl) follows Tryz.func4 (by kernel_rfl) Two_walk
set_option maxHeartbeats 4000000 in
set_option maxRecDepth 8000 in
theorem Pairs_walk : ∀ a, conj ((fun (_ : Body × Body × Vec × Vec) => []) a) → evFn (C := cx) [conTwo, conAwake] [] 0 noHow Tryz.f3 ((rds4 rdBody rdBody rdVec rdVec).enc a) fun v H _ => resOut (.v (.bool true)) H v := by
  intro ⟨a, b, p, q⟩ _
  repeat' (first | (refine And.intro ?_ ?_) | (intro _) | exact rfl)
end Go.Proofs.YtcojfohjdibjjaaGreatDoor
namespace Go.Proofs.YtcojfohjdibjjaaGreatDoor
open Go.ChangeShapes Go.WideShapes Go.ChangeAt Go.RowKit

def laidBig : List (String × DataW Unit) := [("math/bits.deBruijn32tab", Rows.laid_math_bits_deBruijn32tab), ("math/bits.deBruijn64tab", Rows.laid_math_bits_deBruijn64tab), ("math/big.leafSize", Rows.laid_math_big_leafSize), ("math/big.divRecursiveThreshold", Rows.laid_math_big_divRecursiveThreshold), ("math/big.karatsubaThreshold", Rows.laid_math_big_karatsubaThreshold), ("math/big.basicSqrThreshold", Rows.laid_math_big_basicSqrThreshold), ("math/big.karatsubaSqrThreshold", Rows.laid_math_big_karatsubaSqrThreshold)]
theorem door_met (os : Os) (args : Array Value) : laidMetH Tryz.prog laidBig ((World.doorLaid Tryz.prog 292 os).forCall (fun _ _ => 0) ⟨#[], args, []⟩).memory :=
  laidMetH_of_parts3 (fuel := 8) (laidMet_of_run' 8 (by kernel_rfl) (by kernel_rfl)) (by kernel_rfl) (by kernel_rfl)
theorem grd_of_laid {W : World} (h : laidMetH Tryz.prog laidBig W) : cx.Grd W := by
  have h0 := laid_cells (C := cx) (n := "math/big.basicSqrThreshold") (d := Rows.laid_math_big_basicSqrThreshold) (g := 0) (t := 3) (vs := [.int .i64 12]) h (by unfold laidBig; simp) rfl (by kernel_rfl) (by kernel_rfl) (by kernel_rfl)
  have c0 : W.cell? ⟨0, 0, none⟩ = some (.int .i64 12) := h0 0 _ rfl
  have h1 := laid_cells (C := cx) (n := "math/big.karatsubaSqrThreshold") (d := Rows.laid_math_big_karatsubaSqrThreshold) (g := 1) (t := 3) (vs := [.int .i64 80]) h (by unfold laidBig; simp) rfl (by kernel_rfl) (by kernel_rfl) (by kernel_rfl)
  have c1 : W.cell? ⟨1, 0, none⟩ = some (.int .i64 80) := h1 0 _ rfl
  have h2 := laid_cells (C := cx) (n := "math/big.karatsubaThreshold") (d := Rows.laid_math_big_karatsubaThreshold) (g := 2) (t := 3) (vs := [.int .i64 40]) h (by unfold laidBig; simp) rfl (by kernel_rfl) (by kernel_rfl) (by kernel_rfl)
  have c2 : W.cell? ⟨2, 0, none⟩ = some (.int .i64 40) := h2 0 _ rfl
  refine ⟨cell_lt c2, fun b sb hb => ?_⟩
  have hb : look ground b = some sb := hb
  unfold ground at hb
  by_cases e0 : 0 = b
  · subst e0
    rw [look_cons_eq] at hb
    obtain rfl := Option.some.inj hb
    refine ⟨(by decide : 0 < 3), [.int .i64 12], ?_, fun i v hv => h0 i v hv⟩
    exact denL_cons_of rfl rfl
  rw [look_cons_ne _ _ e0] at hb
  by_cases e1 : 1 = b
  · subst e1
    rw [look_cons_eq] at hb
    obtain rfl := Option.some.inj hb
    refine ⟨(by decide : 1 < 3), [.int .i64 80], ?_, fun i v hv => h1 i v hv⟩
    exact denL_cons_of rfl rfl
  rw [look_cons_ne _ _ e1] at hb
  by_cases e2 : 2 = b
  · subst e2
    rw [look_cons_eq] at hb
    obtain rfl := Option.some.inj hb
    refine ⟨(by decide : 2 < 3), [.int .i64 40], ?_, fun i v hv => h2 i v hv⟩
    exact denL_cons_of rfl rfl
  rw [look_cons_ne _ _ e2] at hb
  cases hb
end Go.Proofs.YtcojfohjdibjjaaGreatDoor
