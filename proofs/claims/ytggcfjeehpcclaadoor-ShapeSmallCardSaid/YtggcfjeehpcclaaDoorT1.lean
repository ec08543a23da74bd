/- The contracts that ShapeSmall needs. -/
import Derived.Test.YtggcfjeehpcclaaDoorT0
import Derived.Test.YtggcfjeehpcclaaDoorD2
import Derived.Test.YtggcfjeehpcclaaDoorD3
import Derived.Test.YtggcfjeehpcclaaDoorD4
namespace Go.Proofs.YtggcfjeehpcclaaDoor
open Go.RowKit

theorem follows : cx.P.follows .mixedOrders = true := by kernel_rfl
theorem rooms_of_grd {W : World} (h : cx.Grd W) : Rooms W := by
  obtain ⟨-, vs, h1, h2⟩ := h.2 0 ([.v (.func (.func 60) #[] #[]), .v (.func (.func 61) #[] #[]), .v (.func (.func 62) #[] #[]), .v (.func (.func 63) #[] #[])], 58) rfl
  obtain ⟨_, _, rfl, rfl, _, _, rfl, rfl, _, _, rfl, rfl, _, _, rfl, rfl, rfl⟩ := h1
  exact ⟨h2 0 _ rfl, h2 1 _ rfl, h2 2 _ rfl, h2 3 _ rfl⟩
theorem den_body {ρ : Names} {b : Body} {v : Value} (h : den ρ b.sv v) : v = .agg #[.int .i64 b.iD, .int .i64 b.posX, .int .i64 b.posY, .int .i64 b.velX, .int .i64 b.velY, .int .i64 b.w, .int .i64 b.h, .bool b.round, .bool b.fixed] := by
  obtain ⟨u, h1, rfl⟩ := h
  obtain ⟨_, _, rfl, rfl, _, _, rfl, rfl, _, _, rfl, rfl, _, _, rfl, rfl, _, _, rfl, rfl, _, _, rfl, rfl, _, _, rfl, rfl, _, _, rfl, rfl, _, _, rfl, rfl, rfl⟩ := h1
  rfl
theorem den_vec {ρ : Names} {b : Vec} {v : Value} (h : den ρ b.sv v) : v = .agg #[.int .i64 b.x, .int .i64 b.y] := by
  obtain ⟨u, h1, rfl⟩ := h
  obtain ⟨_, _, rfl, rfl, _, _, rfl, rfl, rfl⟩ := h1
  rfl
theorem yes_of {f : FuncId} {vs : Array Value} {W : World} {ze : Nat → Nat → Value → Prop} (hz : ∀ b i c, ze b i c → W.cell? ⟨b, i, none⟩ = some c ∧ c.oneCell' = true) (h : Calls Tryd.prog f vs W fun e w' => e = .returned (.bool true) ∧ Gr W w') :
    Calls Tryd.prog f vs W fun e W' => ∃ val z', e = .returned val ∧ Gr W W' ∧ (∀ b i c, z' b i c → (ze b i c ∨ W.heap.size ≤ b) ∧ W'.cell? ⟨b, i, none⟩ = some c ∧ c.oneCell' = true) ∧ den (onlyZ z') (.bl true) val :=
  h.mono fun e W' ⟨he, hg⟩ => ⟨.bool true, ze, he, hg, fun b i c h => ⟨.inl h, hg.cellSome (hz b i c h).1, (hz b i c h).2⟩, rfl⟩
noncomputable def conOne : Con cx := mkCon 14 Tryd.call14 (rds2 rdBody rdVec) (fun _ => []) (fun _ => .v (.bool true)) fun a ze W vs _ _ hz hd => by
  obtain ⟨x, _, rfl, hx, y, _, rfl, hy, rfl⟩ := hd
  obtain rfl := den_body hx
  obtain rfl := den_vec hy
  exact yes_of hz (one_true _ _ _ _ _ _ _ _ _ _ _ W)
noncomputable def conTwo : Con cx := mkCon 12 Tryd.call12 (rds2 rdBody rdBody) (fun _ => []) (fun _ => .v (.bool true)) fun a ze W vs _ hG hz hd => by
  obtain ⟨x, _, rfl, hx, y, _, rfl, hy, rfl⟩ := hd
  obtain rfl := den_body hx
  obtain rfl := den_body hy
  exact yes_of hz (two_true _ _ _ _ _ _ _ _ _ _ _ _ _ _ _ _ _ _ W (rooms_of_grd hG))
noncomputable def conAwake : Con cx := mkCon 13 Tryd.call13 rds0 (fun _ => []) (fun _ => .bl true) fun a ze W vs _ hG hz hd => by
  obtain rfl : vs = [] := hd
  exact yes_of hz (awake_true W (rooms_of_grd hG))
set_option maxHeartbeats 2000000 in
theorem Box_walk : ∀ a, conj ((fun _ => []) a) → evFn (C := cx) [] [] 0 noHow Tryd.f15 (((rds4 (rdI .i64) (rdI .i64) (rdI .i64) (rdI .i64))).enc a) fun v H _ => resOut ((fun a => (Body.mk 0 a.1 a.2.1 0 0 a.2.2.1 a.2.2.2 false false).sv) a) H v := by
  intro a _
  repeat' (first | (refine And.intro ?_ ?_) | (intro _) | exact rfl)
noncomputable def conBox : Con cx := walkCon 15 Tryd.call15 (rds4 (rdI .i64) (rdI .i64) (rdI .i64) (rdI .i64)) (fun _ => []) (fun a => (Body.mk 0 a.1 a.2.1 0 0 a.2.2.1 a.2.2.2 false false).sv) (fun _ => noHow) [] (fun _ => rfl) follows Tryd.func15 (by kernel_rfl) Box_walk
set_option maxHeartbeats 2000000 in
theorem Round_walk : ∀ a, conj ((fun _ => []) a) → evFn (C := cx) [] [] 0 noHow Tryd.f16 (((rds3 (rdI .i64) (rdI .i64) (rdI .i64))).enc a) fun v H _ => resOut ((fun a => (Body.mk 0 a.1 a.2.1 0 0 a.2.2 a.2.2 true false).sv) a) H v := by
  intro a _
  repeat' (first | (refine And.intro ?_ ?_) | (intro _) | exact rfl)
noncomputable def conRound : Con cx := walkCon 16 Tryd.call16 (rds3 (rdI .i64) (rdI .i64) (rdI .i64)) (fun _ => []) (fun a => (Body.mk 0 a.1 a.2.1 0 0 a.2.2 a.2.2 true false).sv) (fun _ => noHow) [] (fun _ => rfl) follows Tryd.func16 (by kernel_rfl) Round_walk
end Go.Proofs.YtggcfjeehpcclaaDoor
