/- ShapePoints by computation. -/
import Derived.Test.YtggcfjeehpcclaaDoorX5
import Derived.Test.YtggcfjeehpcclaaDoorY2
namespace Go.Proofs.YtggcfjeehpcclaaDoor
open Go.RowKit

set_option maxRecDepth 100000 in
set_option maxHeartbeats 2000000 in
theorem points_walk (f g : Form) (x y : Int) (W : World) (hf : f.In) (hg : g.In) (hx : InR x) (hy : InR y) (hG : cx.Grd W) : Calls Tryd.prog 9 #[f.val, g.val, .int .i64 x, .int .i64 y] W fun e W' => e = .returned (.bool true) ∧ Gr W W' := by
  refine pure_ev (C := cx) (Γ := G3) (args := [f.sv, g.sv, .v (.int .i64 x), .v (.int .i64 y)]) ⟨[3], [], [], 6⟩ follows Tryd.func9 rfl (by kernel_rfl) (by kernel_rfl) hG rfl ?_
  have ha := f.made
  have hb := g.made
  unfold InR at hx hy
  obtain ⟨a1, a2, a3, a4, a5, a6, a7, a8, a9⟩ := f.body_ok
  have px := pickI_bd (x := x) (n := 1601) (by omega)
  have py := pickI_bd (x := y) (n := 1601) (by omega)
  have oka : f.body.ok = true := ok_iff.2 ⟨by rw [ha.i]; omega, by omega, by omega, by rw [ha.u]; omega, by rw [ha.v]; omega, by omega, by omega, a9, fun _ => ⟨ha.u, ha.v⟩⟩
  have z1 : f.body.low = ⟨f.body.posX - f.body.w, f.body.posY - f.body.h⟩ := by simp [Body.low, oka]
  have z2 : f.body.high = ⟨f.body.posX + f.body.w, f.body.posY + f.body.h⟩ := by simp [Body.high, oka]
  have k1 := pt1 (x := pickI x 1601 - 800) (y := pickI y 1601 - 800) ha (by omega) (by omega)
  have k2 := pt2 (p := ⟨pickI x 1601 - 800, pickI y 1601 - 800⟩) ha hb
  have e1 := pt_end (x := f.body.posX - f.body.w) (y := f.body.posY) ha (by omega) (by omega) (.inr rfl)
  have e2 := pt_end (x := f.body.posX + f.body.w) (y := f.body.posY) ha (by omega) (by omega) (.inr rfl)
  have e3 := pt_end (x := f.body.posX) (y := f.body.posY - f.body.h) ha (by omega) (by omega) (.inl rfl)
  have e4 := pt_end (x := f.body.posX) (y := f.body.posY + f.body.h) ha (by omega) (by omega) (.inl rfl)
  have e5 := pt_end (x := f.body.posX) (y := f.body.posY) ha (by omega) (by omega) (.inl rfl)
  have o1 : f.body.has ⟨f.body.posX + f.body.w + 1, pickI y 1601 - 800⟩ = false := pt_out (.inl (by omega))
  have o2 : f.body.has ⟨pickI x 1601 - 800, f.body.posY - f.body.h - 1⟩ = false := pt_out (.inr (by omega))
  unfold unit at k1
  refine ⟨hf, ?_⟩
  refine ⟨hg, ?_⟩
  repeat' (first | refine And.intro ?_ ?_ | intro _)
  all_goals try ((try simp only [Form.eta, Body.eta, z1, z2]); omega)
  all_goals first
    | (exfalso
       clear hf hg hG ha hb hx hy oka a1 a2 a3 a4 a5 a6 a7 a8 a9 px py o1 o2
       simp only [Form.eta, Body.eta, Vec.eta, z1, z2] at *
       simp_all only [Bool.false_eq_true, Bool.true_eq_false, Bool.not_true]
       done)
    | (refine congrArg (fun b => some (Value.bool b)) ?_
       simp only [Form.eta, Body.eta, Vec.eta, z1, z2]
       rw [o1, o2]
       rfl)
end Go.Proofs.YtggcfjeehpcclaaDoor
