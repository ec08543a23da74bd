/- Equal watches. -/
import Derived.Test.YtinefblphbicaaaDoorH11
namespace Go.Proofs.YtinefblphbicaaaDoor
open Go.RowKit

def Watch.same (a b : Watch) : Bool := decide (a.client = b.client) && decide (a.seq = b.seq) && a.times.same b.times && (decide (a.counts0 = b.counts0) && decide (a.counts1 = b.counts1) && decide (a.counts2 = b.counts2) && decide (a.counts3 = b.counts3) && decide (a.counts4 = b.counts4) && decide (a.counts5 = b.counts5) && decide (a.counts6 = b.counts6)) && decide (a.points = b.points) && decide (a.since = b.since)
set_option maxHeartbeats 2000000 in
set_option maxRecDepth 8000 in
theorem same_walk : ∀ a : Watch × Watch, conj [(a.1.times.n : Int) ≤ 1000000, (a.2.times.n : Int) ≤ 1000000] → evFn (C := cx) [conInts] [] 0 noHow Tryd.f16 ((rds2 rdWatch rdWatch).enc a) fun v H _ => resOut (.v (.bool (a.1.same a.2))) H v := by
  intro ⟨a, b⟩ ⟨hn, hm⟩
  replace hn : (a.times.n : Int) ≤ 1000000 := hn
  replace hm : (b.times.n : Int) ≤ 1000000 := hm
  repeat' (first | (refine And.intro ?_ ?_) | exact trivial | exact rfl | (intro _))
  all_goals first
    | exact hn
    | exact hm
    | (refine Eq.trans ?_ rfl; simp only [Watch.same, rds2, rdF, hdS, tlS, SV.rn, SV.rf, SV.iv, Bool.and_assoc]; first | done | grind | trace_state)
noncomputable def conSame : Con cx := walkCon 16 Tryd.call16 (rds2 rdWatch rdWatch) (fun a => [(a.1.times.n : Int) ≤ 1000000, (a.2.times.n : Int) ≤ 1000000]) (fun a => .v (.bool (a.1.same a.2))) (fun _ => noHow) [] (fun _ => rfl) follows Tryd.func16 (by kernel_rfl) same_walk
end Go.Proofs.YtinefblphbicaaaDoor
