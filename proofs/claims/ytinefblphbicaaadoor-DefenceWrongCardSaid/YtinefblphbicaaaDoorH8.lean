/- vec.Limit; beyond; the lists of Check. -/
import Derived.Test.YtinefblphbicaaaDoorH7
import Derived.Test.YtinefblphbicaaaDoorH3
namespace Go.Proofs.YtinefblphbicaaaDoor
open Go.RowKit

def beyond (v : Vec) (m : Int) : Bool := decide (m < max v.x v.y) || decide (min v.x v.y < -m)
set_option maxHeartbeats 2000000 in
set_option maxRecDepth 8000 in
theorem Limit_walk : ∀ a, conj ((fun a => [InR a.1.x ∧ InR a.1.y, 1 ≤ a.2 ∧ a.2 ≤ 65536]) a) → evFn (C := cx) [conToward] [] 0 noHow Tryd.f27 ((rds2 rdVec (rdI .i64)).enc a) fun v H _ => resOut ((fun a => (lim a.1 a.2).sv) a) H v := by
  intro ⟨v, m⟩ ⟨⟨vx, vy⟩, hm⟩
  replace vx : InR v.x := vx
  replace vy : InR v.y := vy
  replace hm : 1 ≤ m ∧ m ≤ 65536 := hm
  repeat' (first | (refine And.intro ?_ ?_) | (intro _))
  all_goals (try (refine Eq.trans ?_ rfl))
  all_goals first | rfl | exact vx.1 | exact vx.2 | exact vy.1 | exact vy.2 | exact hm.1 | exact hm.2 | trace_state
noncomputable def conLimit : Con cx := walkCon 27 Tryd.call27 (rds2 rdVec (rdI .i64)) (fun a => [InR a.1.x ∧ InR a.1.y, 1 ≤ a.2 ∧ a.2 ≤ 65536]) (fun a => (lim a.1 a.2).sv) (fun _ => noHow) [] (fun _ => rfl) follows Tryd.func27 (by kernel_rfl) Limit_walk

set_option maxHeartbeats 2000000 in
set_option maxRecDepth 8000 in
theorem Beyond_walk : ∀ a, conj ((fun a => [0 ≤ a.2 ∧ a.2 ≤ 65536]) a) → evFn (C := cx) [] [] 0 noHow Tryd.f26 ((rds2 rdVec (rdI .i64)).enc a) fun v H _ => resOut ((fun a => .v (.bool (beyond a.1 a.2))) a) H v := by
  intro ⟨v, m⟩ hm
  replace hm : 0 ≤ m ∧ m ≤ 65536 := hm
  repeat' (first | (refine And.intro ?_ ?_) | (intro _))
  all_goals (try (refine Eq.trans ?_ rfl))
  all_goals (try simp only [rds1, rds2, rds3, rdSz, rdW, rdB, rdI, rdVec, Vec.of, Vec.eta, Sz.of, W.of, hdS, tlS, SV.al, SV.iv, SV.bv, constSV, decide_eq_true_eq, decide_eq_false_iff_not] at *)
  all_goals first | rfl | omega | trace_state
noncomputable def conBeyond : Con cx := walkCon 26 Tryd.call26 (rds2 rdVec (rdI .i64)) (fun a => [0 ≤ a.2 ∧ a.2 ≤ 65536]) (fun a => .v (.bool (beyond a.1 a.2))) (fun _ => noHow) [] (fun _ => rfl) follows Tryd.func26 (by kernel_rfl) Beyond_walk
end Go.Proofs.YtinefblphbicaaaDoor
