/- Suspect, Calm. -/
import Derived.Test.YtinefblphbicaaaDoorH9
namespace Go.Proofs.YtinefblphbicaaaDoor
open Go.RowKit

def Watch.suspect (w : Watch) : Bool := w.ok && decide (100 ≤ w.points)
set_option maxHeartbeats 2000000 in
set_option maxRecDepth 8000 in
theorem suspect_walk : ∀ w : Watch, conj [(w.times.n : Int) ≤ 1000000] → evFn (C := cx) [conValid] [] 0 noHow Tryd.f12 ((rds1 rdWatch).enc w) fun v H _ => resOut (.v (.bool w.suspect)) H v := by
  intro w (hn : (w.times.n : Int) ≤ 1000000)
  repeat' (first | (refine And.intro ?_ ?_) | exact trivial | exact hn | exact rfl | (intro _))
noncomputable def conSuspect : Con cx := walkCon 12 Tryd.call12 (rds1 rdWatch) (fun w => [(w.times.n : Int) ≤ 1000000]) (fun w => .v (.bool w.suspect)) (fun _ => noHow) [] (fun _ => rfl) follows Tryd.func12 (by kernel_rfl) suspect_walk
def calmBad (w : Watch) (now : Int) : Bool := !w.ok || decide (now < w.since) || !isTick now
def calmN (w : Watch) (now : Int) : Int := (now - w.since).tdiv 32
def calm (w : Watch) (now : Int) : Watch × Int := match calmBad w now with
  | true => (watch0, 2)
  | false => ({ w with points := max 0 (w.points - calmN w now), since := w.since + calmN w now * 32 }, 0)
set_option maxHeartbeats 2000000 in
set_option maxRecDepth 8000 in
theorem calm_walk : ∀ a : Watch × Int, conj [(a.1.times.n : Int) ≤ 1000000] → evFn (C := cx) [conValid, conTick] [inClone] 1 noHow Tryd.f15 ((rds2 rdWatch (rdI .i64)).enc a) fun v H _ => resOut (.tup [(calm a.1 a.2).1.sv, .v (.int .i64 (calm a.1 a.2).2)]) H v := by
  intro ⟨w, now⟩ hn
  replace hn : (w.times.n : Int) ≤ 1000000 := hn
  refine And.intro ?_ ?_
  · repeat' (first | (refine And.intro ?_ ?_) | exact trivial | exact hn | exact rfl | (intro _))
  refine And.intro (fun hb => ?_) (fun hb => ?_)
  · replace hb : calmBad w now = true := hb
    have hr : calm w now = (watch0, 2) := by unfold calm; rw [hb]
    simp only [hr]
    repeat' (first | (refine And.intro ?_ ?_) | exact rfl | (intro _))
  replace hb : calmBad w now = false := hb
  have hr : calm w now = ({ w with points := max 0 (w.points - calmN w now), since := w.since + calmN w now * 32 }, 0) := by unfold calm; rw [hb]
  simp only [hr]
  have hb2 : w.ok = true ∧ w.since ≤ now ∧ isTick now = true := by simpa [calmBad, and_assoc] using hb
  obtain ⟨ho, hs, hnow⟩ := hb2
  obtain ⟨h0, h1⟩ := tickOf hnow
  obtain ⟨hn40, hsort, hfit⟩ := okW ho
  have hs0 : 0 ≤ w.since := (tickOf (by simp [Watch.ok] at ho; grind : isTick w.since = true)).1
  have hq : calmN w now = (now - w.since) / 32 := Int.tdiv_eq_ediv_of_nonneg (by omega)
  have hq2 : (now - w.since).tdiv 32 = (now - w.since) / 32 := hq
  have p0 := hfit.p0
  have p1 := hfit.p1
  repeat' (first | (refine And.intro ?_ ?_) | exact rfl | (intro _))
  all_goals first
    | (simp only [hq2]; omega)
    | (simp only; omega)
    | exact Nat.le_trans (by omega : w.times.n ≤ 1000000) (by decide)
    | (show w.times.n * 8 ≤ 140737488355328; omega)
    | (rename_i b hb0 hb1; exact hb0 (by simpa using hb1))
    | (show w.times.g _ = w.times.g (0 + _); rw [Nat.zero_add])
    | trace_state
noncomputable def conCalm : Con cx := walkCon 15 Tryd.call15 (rds2 rdWatch (rdI .i64)) (fun a => [(a.1.times.n : Int) ≤ 1000000]) (fun a => .tup [(calm a.1 a.2).1.sv, .v (.int .i64 (calm a.1 a.2).2)]) (fun _ => noHow) [] (fun _ => rfl) follows Tryd.func15 (by kernel_rfl) calm_walk
end Go.Proofs.YtinefblphbicaaaDoor
