/- ShapeWrong by computation. -/
import Derived.Test.YtggcfjeehpcclaaDoorX3
import Derived.Test.YtggcfjeehpcclaaDoorB1
namespace Go.Proofs.YtggcfjeehpcclaaDoor
open Go.RowKit

def Body.low (b : Body) : Vec := if b.ok = true then ⟨b.posX - b.w, b.posY - b.h⟩ else ⟨0, 0⟩
def Body.high (b : Body) : Vec := if b.ok = true then ⟨b.posX + b.w, b.posY + b.h⟩ else ⟨0, 0⟩
theorem bounds_calls (b : Body) (W : World) : Calls Tryd.prog 27 #[b.val] W fun e W' => e = .returned (.tuple #[b.low.val, b.high.val]) ∧ Gr W W' := by
  unfold Body.low Body.high
  cases h : b.ok with
  | true => exact Bounds_yes b.iD b.posX b.posY b.velX b.velY b.w b.h b.round b.fixed W h
  | false => exact Bounds_no b.iD b.posX b.posY b.velX b.velY b.w b.h b.round b.fixed W h
def conBounds : Con cx := mkCon 27 Tryd.call27 (dec1 decBody) (fun b => [b.val]) (dec1_ok reads_body) (fun _ => none) (fun b => .tup [b.low.sv, b.high.sv]) (fun b => .tuple #[b.low.val, b.high.val]) (fun _ _ => rfl)
  fun b W _ _ => bounds_calls b W
def G3 : List (Con cx) := conBounds :: G2

/-- Behind the switch. -/
def wrongCut (f g : Form) : Cut := ⟨Body, fun b => b.ok = false,
  fun b => ⟨[(11, ⟨0, 0, [], .p 2 0⟩), (12, ⟨0, 0, [], .p 3 0⟩), (13, ⟨0, 0, [], .p 4 0⟩)],
    [(2, ⟨[.v (.int .i64 f.body.iD), .v (.int .i64 f.body.posX), .v (.int .i64 f.body.posY), .v (.int .i64 f.body.velX), .v (.int .i64 f.body.velY), .v (.int .i64 f.body.w), .v (.int .i64 f.body.h), .v (.bool f.body.round), .v (.bool f.body.fixed)], 25⟩),
     (3, ⟨[.v (.int .i64 g.body.iD), .v (.int .i64 g.body.posX), .v (.int .i64 g.body.posY), .v (.int .i64 g.body.velX), .v (.int .i64 g.body.velY), .v (.int .i64 g.body.w), .v (.int .i64 g.body.h), .v (.bool g.body.round), .v (.bool g.body.fixed)], 25⟩),
     (4, ⟨[.v (.int .i64 b.iD), .v (.int .i64 b.posX), .v (.int .i64 b.posY), .v (.int .i64 b.velX), .v (.int .i64 b.velY), .v (.int .i64 b.w), .v (.int .i64 b.h), .v (.bool b.round), .v (.bool b.fixed)], 25⟩)], 5, 0, [], []⟩, fun _ => 0⟩

set_option maxRecDepth 100000 in
set_option maxHeartbeats 2000000 in
theorem wrong_walk (f g : Form) (c lo hi : Int) (W : World) (hf : f.In) (hg : g.In) (hc0 : 0 ≤ c) (hc1 : c ≤ 255) (hG : cx.Grd W) : Calls Tryd.prog 11 #[f.val, g.val, .int .u8 c, .int .i64 lo, .int .i64 hi] W fun e W' => e = .returned (.bool true) ∧ Gr W W' := by
  refine pure_ev (C := cx) (Γ := G3) (args := [f.sv, g.sv, .v (.int .u8 c), .v (.int .i64 lo), .v (.int .i64 hi)]) ⟨[], [(31, wrongCut f g)], [], 0⟩ follows Tryd.func11 rfl (by kernel_rfl) (by kernel_rfl) hG rfl ?_
  have ha := f.made
  have hb := g.made
  obtain ⟨a1, a2, a3, a4, a5, a6, a7, a8, a9⟩ := f.body_ok
  refine ⟨hf, ?_⟩
  refine ⟨hg, ?_⟩
  refine And.intro ?_ ?_
  · have hm : 0 ≤ c.tmod 12 ∧ c.tmod 12 < 12 := by rw [Int.tmod_eq_emod_of_nonneg hc0]; omega
    refine And.intro (by decide) ?_
    generalize hcm : c.tmod 12 = m at hm ⊢
    repeat' (first | refine And.intro ?_ ?_ | intro _)
    all_goals try (simp only [Form.eta]; omega)
    all_goals first
      | (exfalso; simp only [decide_eq_true_eq, decide_eq_false_iff_not] at *; omega)
      | refine Exists.intro ⟨min lo (-1048577), f.body.posX, f.body.posY, f.body.velX, f.body.velY, f.body.w, f.body.h, f.body.round, f.body.fixed⟩ (Exists.intro [] (And.intro ?_ (And.intro rfl (And.intro (And.intro (fun _ _ h => h) (And.intro (fun _ _ h => h) (And.intro (fun _ _ h => h) trivial))) (And.intro (And.intro rfl (fun _ _ h => h)) (And.intro (And.intro rfl (fun _ _ h => h)) (And.intro (And.intro rfl (fun _ _ h => h)) trivial)))))))
      | refine Exists.intro ⟨max hi 1048577, f.body.posX, f.body.posY, f.body.velX, f.body.velY, f.body.w, f.body.h, f.body.round, f.body.fixed⟩ (Exists.intro [] (And.intro ?_ (And.intro rfl (And.intro (And.intro (fun _ _ h => h) (And.intro (fun _ _ h => h) (And.intro (fun _ _ h => h) trivial))) (And.intro (And.intro rfl (fun _ _ h => h)) (And.intro (And.intro rfl (fun _ _ h => h)) (And.intro (And.intro rfl (fun _ _ h => h)) trivial)))))))
      | refine Exists.intro ⟨f.body.iD, min lo (-1048577), f.body.posY, f.body.velX, f.body.velY, f.body.w, f.body.h, f.body.round, f.body.fixed⟩ (Exists.intro [] (And.intro ?_ (And.intro rfl (And.intro (And.intro (fun _ _ h => h) (And.intro (fun _ _ h => h) (And.intro (fun _ _ h => h) trivial))) (And.intro (And.intro rfl (fun _ _ h => h)) (And.intro (And.intro rfl (fun _ _ h => h)) (And.intro (And.intro rfl (fun _ _ h => h)) trivial)))))))
      | refine Exists.intro ⟨f.body.iD, f.body.posX, max hi 1048577, f.body.velX, f.body.velY, f.body.w, f.body.h, f.body.round, f.body.fixed⟩ (Exists.intro [] (And.intro ?_ (And.intro rfl (And.intro (And.intro (fun _ _ h => h) (And.intro (fun _ _ h => h) (And.intro (fun _ _ h => h) trivial))) (And.intro (And.intro rfl (fun _ _ h => h)) (And.intro (And.intro rfl (fun _ _ h => h)) (And.intro (And.intro rfl (fun _ _ h => h)) trivial)))))))
      | refine Exists.intro ⟨f.body.iD, f.body.posX, f.body.posY, max hi 1048577, f.body.velY, f.body.w, f.body.h, f.body.round, f.body.fixed⟩ (Exists.intro [] (And.intro ?_ (And.intro rfl (And.intro (And.intro (fun _ _ h => h) (And.intro (fun _ _ h => h) (And.intro (fun _ _ h => h) trivial))) (And.intro (And.intro rfl (fun _ _ h => h)) (And.intro (And.intro rfl (fun _ _ h => h)) (And.intro (And.intro rfl (fun _ _ h => h)) trivial)))))))
      | refine Exists.intro ⟨f.body.iD, f.body.posX, f.body.posY, f.body.velX, min lo (-1048577), f.body.w, f.body.h, f.body.round, f.body.fixed⟩ (Exists.intro [] (And.intro ?_ (And.intro rfl (And.intro (And.intro (fun _ _ h => h) (And.intro (fun _ _ h => h) (And.intro (fun _ _ h => h) trivial))) (And.intro (And.intro rfl (fun _ _ h => h)) (And.intro (And.intro rfl (fun _ _ h => h)) (And.intro (And.intro rfl (fun _ _ h => h)) trivial)))))))
      | refine Exists.intro ⟨f.body.iD, f.body.posX, f.body.posY, f.body.velX, f.body.velY, 0, f.body.h, f.body.round, f.body.fixed⟩ (Exists.intro [] (And.intro ?_ (And.intro rfl (And.intro (And.intro (fun _ _ h => h) (And.intro (fun _ _ h => h) (And.intro (fun _ _ h => h) trivial))) (And.intro (And.intro rfl (fun _ _ h => h)) (And.intro (And.intro rfl (fun _ _ h => h)) (And.intro (And.intro rfl (fun _ _ h => h)) trivial)))))))
      | refine Exists.intro ⟨f.body.iD, f.body.posX, f.body.posY, f.body.velX, f.body.velY, f.body.w, min lo (-1048577), f.body.round, f.body.fixed⟩ (Exists.intro [] (And.intro ?_ (And.intro rfl (And.intro (And.intro (fun _ _ h => h) (And.intro (fun _ _ h => h) (And.intro (fun _ _ h => h) trivial))) (And.intro (And.intro rfl (fun _ _ h => h)) (And.intro (And.intro rfl (fun _ _ h => h)) (And.intro (And.intro rfl (fun _ _ h => h)) trivial)))))))
      | refine Exists.intro ⟨f.body.iD, f.body.posX, f.body.posY, f.body.velX, f.body.velY, max hi 1048577, max hi 1048577, f.body.round, f.body.fixed⟩ (Exists.intro [] (And.intro ?_ (And.intro rfl (And.intro (And.intro (fun _ _ h => h) (And.intro (fun _ _ h => h) (And.intro (fun _ _ h => h) trivial))) (And.intro (And.intro rfl (fun _ _ h => h)) (And.intro (And.intro rfl (fun _ _ h => h)) (And.intro (And.intro rfl (fun _ _ h => h)) trivial)))))))
      | refine Exists.intro ⟨f.body.iD, f.body.posX, f.body.posY, f.body.velX, f.body.velY, f.body.w, f.body.w + 1, true, f.body.fixed⟩ (Exists.intro [] (And.intro ?_ (And.intro rfl (And.intro (And.intro (fun _ _ h => h) (And.intro (fun _ _ h => h) (And.intro (fun _ _ h => h) trivial))) (And.intro (And.intro rfl (fun _ _ h => h)) (And.intro (And.intro rfl (fun _ _ h => h)) (And.intro (And.intro rfl (fun _ _ h => h)) trivial)))))))
      | refine Exists.intro ⟨f.body.iD, f.body.posX, f.body.posY, 1, f.body.velY, f.body.w, f.body.h, f.body.round, true⟩ (Exists.intro [] (And.intro ?_ (And.intro rfl (And.intro (And.intro (fun _ _ h => h) (And.intro (fun _ _ h => h) (And.intro (fun _ _ h => h) trivial))) (And.intro (And.intro rfl (fun _ _ h => h)) (And.intro (And.intro rfl (fun _ _ h => h)) (And.intro (And.intro rfl (fun _ _ h => h)) trivial)))))))
      | refine Exists.intro ⟨f.body.iD, f.body.posX, f.body.posY, f.body.velX, -1, f.body.w, f.body.h, f.body.round, true⟩ (Exists.intro [] (And.intro ?_ (And.intro rfl (And.intro (And.intro (fun _ _ h => h) (And.intro (fun _ _ h => h) (And.intro (fun _ _ h => h) trivial))) (And.intro (And.intro rfl (fun _ _ h => h)) (And.intro (And.intro rfl (fun _ _ h => h)) (And.intro (And.intro rfl (fun _ _ h => h)) trivial)))))))
      | trace_state
    all_goals
      refine Bool.eq_false_iff.2 fun hok => ?_
      have ho := ok_iff.1 hok
      simp only [Form.eta, decide_eq_true_eq, decide_eq_false_iff_not] at *
      first
        | omega
        | (have := ho.2.2.2.2.2.2.2.1 trivial; omega)
        | (have := ho.2.2.2.2.2.2.2.2 trivial; omega)
  · refine fun (b : Body) (hb : b.ok = false) => ?_
    have oka : f.body.ok = true := ok_iff.2 ⟨by rw [ha.i]; omega, by omega, by omega, by rw [ha.u]; omega, by rw [ha.v]; omega, by omega, by omega, a9, fun _ => ⟨ha.u, ha.v⟩⟩
    have z3 : ∀ p, b.has p = false := fun p => by
      unfold Body.has hasB
      rw [show vldB b.iD b.posX b.posY b.velX b.velY b.w b.h b.round b.fixed = false from hb]
      rfl
    have z1 : b.low = ⟨0, 0⟩ := by simp [Body.low, hb]
    have z2 : b.high = ⟨0, 0⟩ := by simp [Body.high, hb]
    repeat' (first | refine And.intro ?_ ?_ | intro _)
    · exfalso
      rename_i h _
      simp only [Body.eta, Vec.eta, z1, z2, hb, z3, oka] at h
      revert h
      decide
    · refine congrArg (fun b => some (Value.bool b)) ?_
      simp only [Body.eta, Vec.eta]
      simp [Body.over, Body.meets, Body.touch, hb]
end Go.Proofs.YtggcfjeehpcclaaDoor
