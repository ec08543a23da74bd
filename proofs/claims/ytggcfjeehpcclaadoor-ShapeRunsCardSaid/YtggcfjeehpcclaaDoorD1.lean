/- Contracts of the statements' small helpers: Box, Round, Pick, Made, made, shifted. -/
import Derived.Test.YtggcfjeehpcclaaDoorB3
import Derived.Test.YtggcfjeehpcclaaDoorB2
namespace Go.Proofs.YtggcfjeehpcclaaDoor
open Go.RowKit

theorem Box_any (x y p q : Int) (w : World) :
    Calls Tryd.prog 15 #[.int .i64 x, .int .i64 y, .int .i64 p, .int .i64 q] w
      fun e w' => e = .returned (.agg #[.int .i64 0, .int .i64 x, .int .i64 y, .int .i64 0, .int .i64 0, .int .i64 p, .int .i64 q, .bool false, .bool false]) ∧ Gr w w' := by
  go_enter Tryd.func15, Tryd.ntmps15
  go_wp2
  refine bodyPost_ret (v := .agg #[.int .i64 0, .int .i64 x, .int .i64 y, .int .i64 0, .int .i64 0, .int .i64 p, .int .i64 q, .bool false, .bool false]) (by simp [results, Tryd.results15, go_sem]) rfl ⟨rfl, ?_⟩
  repeat (first | with_reducible exact Gr.refl _ | with_reducible assumption | (with_reducible refine Gr.setAt ?_ ?_ _; focus omega) | with_reducible refine Gr.alloc ?_ _ | with_reducible refine Gr.drew ?_ | with_reducible refine Gr.drewN ?_ _ | with_reducible refine Gr.trans ?_ (by assumption))

theorem Round_any (x y p : Int) (w : World) :
    Calls Tryd.prog 16 #[.int .i64 x, .int .i64 y, .int .i64 p] w
      fun e w' => e = .returned (.agg #[.int .i64 0, .int .i64 x, .int .i64 y, .int .i64 0, .int .i64 0, .int .i64 p, .int .i64 p, .bool true, .bool false]) ∧ Gr w w' := by
  go_enter Tryd.func16, Tryd.ntmps16
  go_wp2
  refine bodyPost_ret (v := .agg #[.int .i64 0, .int .i64 x, .int .i64 y, .int .i64 0, .int .i64 0, .int .i64 p, .int .i64 p, .bool true, .bool false]) (by simp [results, Tryd.results16, go_sem]) rfl ⟨rfl, ?_⟩
  repeat (first | with_reducible exact Gr.refl _ | with_reducible assumption | (with_reducible refine Gr.setAt ?_ ?_ _; focus omega) | with_reducible refine Gr.alloc ?_ _ | with_reducible refine Gr.drew ?_ | with_reducible refine Gr.drewN ?_ _ | with_reducible refine Gr.trans ?_ (by assumption))

def pickI (x n : Int) : Int := x % n
theorem tmod_neg {x n : Int} (hx : x < 0) (hn : 0 < n) : (x.tmod n < 0 ∧ x.tmod n + n = x % n ∧ -n < x.tmod n) ∨ (x.tmod n = 0 ∧ x % n = 0) := by
  have h := @Int.tmod_eq_emod x n
  by_cases hd : n ∣ x
  · right
    have := Int.emod_eq_zero_of_dvd hd
    rw [if_pos (Or.inr hd)] at h
    omega
  · left
    rw [if_neg (by omega)] at h
    have h1 := Int.emod_nonneg x (by omega : n ≠ 0)
    have h2 := Int.emod_lt_of_pos x hn
    have h3 : x % n ≠ 0 := fun e => hd (Int.dvd_of_emod_eq_zero e)
    omega
theorem pickI_bd {x n : Int} (hn : 0 < n) : 0 ≤ pickI x n ∧ pickI x n < n := ⟨Int.emod_nonneg x (by omega), Int.emod_lt_of_pos x hn⟩

theorem Pick_any (x n : Int) (w : World) (hn : 1 ≤ n) (hn' : n ≤ 1000000000) (hx1 : -9223372036854775808 ≤ x) (hx2 : x ≤ 9223372036854775807) :
    Calls Tryd.prog 23 #[.int .i64 x, .int .i64 n] w fun e w' => e = .returned (.int .i64 (pickI x n)) ∧ w = w' := by
  by_cases hx : 0 ≤ x
  · have h1 := Int.emod_nonneg x (by omega : n ≠ 0)
    have h2 := Int.emod_lt_of_pos x (by omega : 0 < n)
    go_enter Tryd.func23, Tryd.ntmps23
    go_wp2
    go_ret
    exact ⟨rfl, rfl⟩
  · rcases tmod_neg (x := x) (n := n) (by omega) (by omega) with ⟨h1, h2, h3⟩ | ⟨h1, h2⟩
    · have H2 := Lib.hid h2; clear h2
      generalize ht : x.tmod n = t at h1 h3 H2
      go_enter Tryd.func23, Tryd.ntmps23
      go_wp2
      go_ret
      exact ⟨ret_int H2.out, rfl⟩
    · have H2 := Lib.hid h2; clear h2
      go_enter Tryd.func23, Tryd.ntmps23
      go_wp2
      go_ret
      exact ⟨ret_int H2.out.symm, rfl⟩
end Go.Proofs.YtggcfjeehpcclaaDoor
