/- ShapeGrows by computation. -/
import Derived.Test.YtggcfjeehpcclaaDoorX4
import Derived.Test.YtggcfjeehpcclaaDoorY1
namespace Go.Proofs.YtggcfjeehpcclaaDoor
open Go.RowKit

set_option maxRecDepth 100000 in
set_option maxHeartbeats 2000000 in
theorem grows_walk (f g : Form) (x y c : Int) (W : World) (hf : f.In) (hg : g.In) (hx : InR x) (hy : InR y) (hc0 : 0 ≤ c) (hc1 : c ≤ 255) (hG : cx.Grd W) : Calls Tryd.prog 8 #[f.val, g.val, .int .i64 x, .int .i64 y, .int .u8 c] W fun e W' => e = .returned (.bool true) ∧ Gr W W' := by
  refine pure_ev (C := cx) (Γ := G3) (args := [f.sv, g.sv, .v (.int .i64 x), .v (.int .i64 y), .v (.int .u8 c)]) ⟨[3, 4, 5, 8], [], [], 3⟩ follows Tryd.func8 rfl (by kernel_rfl) (by kernel_rfl) hG rfl ?_
  have ha := f.made
  unfold InR at hx hy
  have hb := g.made
  obtain ⟨a1, a2, a3, a4, a5, a6, a7, a8, a9⟩ := f.body_ok
  have px := pickI_bd (x := x) (n := 2001) (by omega)
  have py := pickI_bd (x := y) (n := 2001) (by omega)
  have hm : 0 ≤ c.tmod 100 ∧ c.tmod 100 < 100 := by rw [Int.tmod_eq_emod_of_nonneg hc0]; omega
  refine ⟨hf, ?_⟩
  refine ⟨hg, ?_⟩
  have okb : g.body.ok = true := by
    obtain ⟨b1, b2, b3, b4, b5, b6, b7, b8, b9⟩ := g.body_ok
    exact ok_iff.2 ⟨by rw [hb.i]; omega, by omega, by omega, by rw [hb.u]; omega, by rw [hb.v]; omega, by omega, by omega, b9, fun _ => ⟨hb.u, hb.v⟩⟩
  have k1 := (covers_grow ha hm.1 (Int.le_of_lt hm.2)).none (p := ⟨pickI x 2001 - 1000, pickI y 2001 - 1000⟩) hb okb
  cases hr : f.body.round with
  | false =>
    have k2 := (covers_circle ha hr).none (p := ⟨pickI x 2001 - 1000, pickI y 2001 - 1000⟩) hb okb
    repeat' (first | refine And.intro ?_ ?_ | intro _)
    all_goals try ((try simp only [Form.eta]); omega)
    all_goals first
      | rfl
      | (exfalso
         clear hf hg hG ha hb hx hy okb a1 a2 a3 a4 a5 a6 a7 a8 a9 hm px py hc0 hc1
         simp only [Form.eta, Body.eta, Vec.eta] at *
         simp only [hr, Bool.not_true, Bool.not_false] at *
         simp_all only [Bool.false_eq_true, Bool.true_eq_false])
      | trace_state
  | true =>
    have k2 := (covers_box ha hr).none (p := ⟨pickI x 2001 - 1000, pickI y 2001 - 1000⟩) hb okb
    repeat' (first | refine And.intro ?_ ?_ | intro _)
    all_goals try ((try simp only [Form.eta]); omega)
    all_goals first
      | rfl
      | (exfalso
         clear hf hg hG ha hb hx hy okb a1 a2 a3 a4 a5 a6 a7 a8 a9 hm px py hc0 hc1
         simp only [Form.eta, Body.eta, Vec.eta] at *
         simp only [hr, Bool.not_true, Bool.not_false] at *
         simp_all only [Bool.false_eq_true, Bool.true_eq_false])
      | trace_state
end Go.Proofs.YtggcfjeehpcclaaDoor
