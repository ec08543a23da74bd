/- like; mirror and turn; ShapeSame by computation. -/
import Derived.Test.YtggcfjeehpcclaaDoorY0
namespace Go.Proofs.YtggcfjeehpcclaaDoor
open Go.RowKit

theorem follows : (Tryd.prog).follows .mixedOrders = true := by kernel_rfl

set_option maxRecDepth 100000 in
theorem like_calls (a b c d : Body) (W : World) (hG : cx.Grd W) : Calls Tryd.prog 19 #[a.val, b.val, c.val, d.val] W fun e W' => e = .returned (.bool (a.alike b c d)) ∧ Gr W W' := by
  refine pure_ev (C := cx) (Γ := G1) (args := [a.sv, b.sv, c.sv, d.sv]) plain follows Tryd.func19 rfl (by kernel_rfl) (by kernel_rfl) hG rfl ?_
  intro ρ
  rfl
def conLike : Con cx := mkCon 19 Tryd.call19 (dec4 decBody decBody decBody decBody) (fun b => [b.1.val, b.2.1.val, b.2.2.1.val, b.2.2.2.val]) (dec4_ok reads_body reads_body reads_body reads_body)
  (fun _ => none) (fun b => .v (.bool (b.1.alike b.2.1 b.2.2.1 b.2.2.2))) (fun b => .bool (b.1.alike b.2.1 b.2.2.1 b.2.2.2)) (fun _ _ => rfl)
  fun b W _ h => like_calls b.1 b.2.1 b.2.2.1 b.2.2.2 W h
set_option maxRecDepth 100000 in
theorem mirror_calls (b : Body) (W : World) (h : InR (-b.posX)) (hG : cx.Grd W) : Calls Tryd.prog 24 #[b.val] W fun e W' => e = .returned b.mirror.val ∧ Gr W W' := by
  refine pure_ev (C := cx) (Γ := G1) (args := [b.sv]) plain follows Tryd.func24 rfl (by kernel_rfl) (by kernel_rfl) hG rfl ?_
  exact ⟨h, fun ρ => rfl⟩
set_option maxRecDepth 100000 in
theorem turn_calls (b : Body) (W : World) (h : InR (-b.posY)) (hG : cx.Grd W) : Calls Tryd.prog 25 #[b.val] W fun e W' => e = .returned b.turn.val ∧ Gr W W' := by
  refine pure_ev (C := cx) (Γ := G1) (args := [b.sv]) plain follows Tryd.func25 rfl (by kernel_rfl) (by kernel_rfl) hG rfl ?_
  exact ⟨h, fun ρ => rfl⟩
def conMirror : Con cx := mkCon 24 Tryd.call24 (dec1 decBody) (fun b => [b.val]) (dec1_ok reads_body) (fun b => some (InR (-b.posX))) (fun b => b.mirror.sv) (fun b => b.mirror.val) (fun _ _ => rfl)
  fun b W h hG => mirror_calls b W h hG
def conTurn : Con cx := mkCon 25 Tryd.call25 (dec1 decBody) (fun b => [b.val]) (dec1_ok reads_body) (fun b => some (InR (-b.posY))) (fun b => b.turn.sv) (fun b => b.turn.val) (fun _ _ => rfl)
  fun b W h hG => turn_calls b W h hG
def G2 : List (Con cx) := conLike :: conMirror :: conTurn :: G1

set_option maxRecDepth 100000 in
theorem same_walk (f g : Form) (dx dy : Int) (W : World) (hf : f.In) (hg : g.In) (hx : InR dx) (hy : InR dy) (hG : cx.Grd W) : Calls Tryd.prog 7 #[f.val, g.val, .int .i64 dx, .int .i64 dy] W fun e W' => e = .returned (.bool true) ∧ Gr W W' := by
  refine pure_ev (C := cx) (Γ := G2) (args := [f.sv, g.sv, .v (.int .i64 dx), .v (.int .i64 dy)]) ⟨[7], [], [], 0⟩ follows Tryd.func7 rfl (by kernel_rfl) (by kernel_rfl) hG rfl ?_
  have ha := f.made
  have hb := g.made
  refine ⟨hf, ?_⟩
  refine ⟨hg, ?_⟩
  have ba := f.body_ok
  have bb := g.body_ok
  have px := pickI_bd (x := dx) (n := 2000001) (by omega)
  have py := pickI_bd (x := dy) (n := 2000001) (by omega)
  obtain ⟨a1, a2, a3, a4, a5, a6, a7, a8, a9⟩ := ba
  obtain ⟨b1, b2, b3, b4, b5, b6, b7, b8, b9⟩ := bb
  unfold InR at hx hy
  refine ⟨⟨by omega, by omega, hx⟩, ?_⟩
  refine ⟨by constructor <;> simp only [] <;> omega, ?_⟩
  refine ⟨⟨by omega, by omega, hy⟩, ?_⟩
  refine ⟨by constructor <;> simp only [] <;> omega, ?_⟩
  have oka := ok_iff.2 (show (0 ≤ f.body.iD ∧ f.body.iD ≤ 65536) ∧ _ from ⟨by rw [ha.i]; omega, by omega, by omega, by rw [ha.u]; omega, by rw [ha.v]; omega, by omega, by omega, a9, fun _ => ⟨ha.u, ha.v⟩⟩)
  have okb := ok_iff.2 (show (0 ≤ g.body.iD ∧ g.body.iD ≤ 65536) ∧ _ from ⟨by rw [hb.i]; omega, by omega, by omega, by rw [hb.u]; omega, by rw [hb.v]; omega, by omega, by omega, b9, fun _ => ⟨hb.u, hb.v⟩⟩)
  have e1 := alike_of oka okb okb oka (far_comm f.body g.body)
  have e2 := alike_of oka okb (c := f.body.shift (pickI dx 2000001 - 1000000) (pickI dy 2000001 - 1000000)) (d := g.body.shift (pickI dx 2000001 - 1000000) (pickI dy 2000001 - 1000000))
    (ok_iff.2 ⟨by simp only [Body.shift, ha.i]; omega, by simp only [Body.shift]; omega, by simp only [Body.shift]; omega, by simp only [Body.shift, ha.u]; omega, by simp only [Body.shift, ha.v]; omega, by simp only [Body.shift]; omega, by simp only [Body.shift]; omega, a9, fun _ => ⟨ha.u, ha.v⟩⟩)
    (ok_iff.2 ⟨by simp only [Body.shift, hb.i]; omega, by simp only [Body.shift]; omega, by simp only [Body.shift]; omega, by simp only [Body.shift, hb.u]; omega, by simp only [Body.shift, hb.v]; omega, by simp only [Body.shift]; omega, by simp only [Body.shift]; omega, b9, fun _ => ⟨hb.u, hb.v⟩⟩)
    (far_shift f.body g.body _ _)
  have e3 := alike_of oka okb (c := f.body.mirror) (d := g.body.mirror)
    (ok_iff.2 ⟨by simp only [Body.mirror, ha.i]; omega, by simp only [Body.mirror]; omega, by simp only [Body.mirror]; omega, by simp only [Body.mirror, ha.u]; omega, by simp only [Body.mirror, ha.v]; omega, by simp only [Body.mirror]; omega, by simp only [Body.mirror]; omega, a9, fun _ => ⟨ha.u, ha.v⟩⟩)
    (ok_iff.2 ⟨by simp only [Body.mirror, hb.i]; omega, by simp only [Body.mirror]; omega, by simp only [Body.mirror]; omega, by simp only [Body.mirror, hb.u]; omega, by simp only [Body.mirror, hb.v]; omega, by simp only [Body.mirror]; omega, by simp only [Body.mirror]; omega, b9, fun _ => ⟨hb.u, hb.v⟩⟩)
    (far_mirror f.body g.body)
  have e4 := alike_of oka okb (c := f.body.turn) (d := g.body.turn)
    (ok_iff.2 ⟨by simp only [Body.turn, ha.i]; omega, by simp only [Body.turn]; omega, by simp only [Body.turn]; omega, by simp only [Body.turn, ha.u]; omega, by simp only [Body.turn, ha.v]; omega, by simp only [Body.turn]; omega, by simp only [Body.turn]; omega, fun h => (a9 h).symm, fun _ => ⟨ha.u, ha.v⟩⟩)
    (ok_iff.2 ⟨by simp only [Body.turn, hb.i]; omega, by simp only [Body.turn]; omega, by simp only [Body.turn]; omega, by simp only [Body.turn, hb.u]; omega, by simp only [Body.turn, hb.v]; omega, by simp only [Body.turn]; omega, by simp only [Body.turn]; omega, fun h => (b9 h).symm, fun _ => ⟨hb.u, hb.v⟩⟩)
    (far_turn f.body g.body a9 b9)
  have e5 := alike_of oka okb (c := ⟨7, f.body.posX, f.body.posY, f.body.velX, f.body.velY, f.body.w, f.body.h, f.body.round, true⟩) (d := ⟨g.body.iD, g.body.posX, g.body.posY, 5, -4096, g.body.w, g.body.h, g.body.round, g.body.fixed⟩)
    (ok_iff.2 ⟨by simp only []; omega, by simp only []; omega, by simp only []; omega, by simp only [ha.u]; omega, by simp only [ha.v]; omega, by simp only []; omega, by simp only []; omega, a9, fun _ => ⟨ha.u, ha.v⟩⟩)
    (ok_iff.2 ⟨by simp only [hb.i]; omega, by simp only []; omega, by simp only []; omega, by simp only []; omega, by simp only []; omega, by simp only []; omega, by simp only []; omega, b9, fun h => by simp [hb.f] at h⟩)
    rfl
  have o1 : f.body.over f.body = true := by simp [Body.over, oka, far_self _ ha]
  have o2 : g.body.meets g.body = true := by simp [Body.meets, okb, Int.le_of_lt (far_self _ hb)]
  have o3 : f.body.touch f.body = false := by have := far_self _ ha; simp [Body.touch, oka]; omega
  repeat' refine And.intro ?_ ?_
  iterate 2
    focus
      intro _
      refine And.intro (And.intro ?_ ?_) (And.intro ?_ ?_) <;> simp only [Form.eta, Body.eta] <;> omega
  iterate 4
    focus
      intro _
      refine And.intro ?_ ?_ <;> simp only [Form.eta, Body.eta] <;> omega
  · intro h
    exfalso
    simp only [Body.eta, Form.eta, e1, e2, e3, e4] at h
    rw [e5] at h
    cases h
  · intro _ ρ
    refine congrArg (fun b => some (Value.bool b)) ?_
    simp only [Body.eta, Form.eta, o1, o2, o3]
    rfl
end Go.Proofs.YtggcfjeehpcclaaDoor
