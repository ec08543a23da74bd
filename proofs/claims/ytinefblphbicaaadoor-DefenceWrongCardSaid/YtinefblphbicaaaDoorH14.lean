/- Mark. -/
import Derived.Test.YtinefblphbicaaaDoorH13
namespace Go.Proofs.YtinefblphbicaaaDoor
open Go.RowKit

def markBad (w : Watch) (f : Int) : Bool := !w.ok || decide (f < 1) || decide (7 < f)
def mark (w : Watch) (f : Int) : Watch × Int := match markBad w f with
  | true => (watch0, 2)
  | false => (w.mark1 f, 0)
def markCut (w : Watch) (f : Int) : Cut := ⟨Unit, fun _ => True, fun _ => ⟨[sl 1 (.il .u8 f), sl 2 (.p 0 0), sl 4 (.p 1 0)], [(0, .lay (w.own 2 2) 27), (1, .lay zeroW 27), (2, .lst 2 1 w.times.n (famC w.times.g) 3)], 3, 0, [], []⟩, fun _ => 0⟩
set_option maxHeartbeats 4000000 in
set_option maxRecDepth 8000 in
theorem mark_walk : ∀ a : Watch × Int, conj [(a.1.times.n : Int) ≤ 1000000] → evFn (C := cx) [conValid] [inClone, inMarked] 1 ⟨[], [4], [], 0⟩ Tryd.f14 ((rds2 rdWatch (rdI .u8)).enc a) fun v H _ => resOut (.tup [(mark a.1 a.2).1.sv, .v (.int .i64 (mark a.1 a.2).2)]) H v := by
  intro ⟨w, f⟩ hn
  replace hn : (w.times.n : Int) ≤ 1000000 := hn
  refine And.intro ?_ ?_
  · repeat' (first | (refine And.intro ?_ ?_) | exact trivial | exact hn | exact rfl | (intro _))
  refine And.intro (fun hb => ?_) (fun hb => ?_)
  · replace hb : markBad w f = true := hb
    have hr : mark w f = (watch0, 2) := by unfold mark; rw [hb]
    simp only [hr]
    repeat' (first | (refine And.intro ?_ ?_) | exact rfl | (intro _))
  replace hb : markBad w f = false := hb
  have hr : mark w f = (w.mark1 f, 0) := by unfold mark; rw [hb]
  simp only [hr]
  have hb2 : w.ok = true ∧ 1 ≤ f ∧ f ≤ 7 := by simpa [markBad, and_assoc] using hb
  obtain ⟨ho, hf1, hf2⟩ := hb2
  obtain ⟨hn40, hsort, hfit⟩ := okW ho
  obtain ⟨c0, c1, c2, c3, c4, c5, c6, p0, p1⟩ := hfit
  refine Exists.intro (markCut w f) ?_
  refine And.intro ?_ ?_
  · refine fun b hb0 => ?_
    replace hb0 : b = true → w.times.n = 0 := hb0
    refine And.intro (fun hb1 => ?_) (fun hb1 => ?_)
    · have h0 : w.times.n = 0 := by simp at hb1; exact hb0 hb1
      refine ⟨(), [], [.cell 0 2 1 3], trivial, trivial, ?_⟩
      repeat' (first | (refine And.intro ?_ ?_) | exact rfl | (intro _))
      all_goals first | exact h0 | exact absurd ‹_ < 0› (Nat.not_lt_zero _) | trace_state
    · refine And.intro ⟨Nat.le_trans (by omega : w.times.n ≤ 1000000) (by decide), by show w.times.n * 8 ≤ 140737488355328; omega⟩ ?_
      refine ⟨(), [], [], trivial, trivial, ?_⟩
      repeat' (first | (refine And.intro ?_ ?_) | exact rfl | (intro _))
  intro _ _
  have : f = 1 ∨ f = 2 ∨ f = 3 ∨ f = 4 ∨ f = 5 ∨ f = 6 ∨ f = 7 := by omega
  clear hb hr hf1 hf2
  obtain rfl | rfl | rfl | rfl | rfl | rfl | rfl := this
  all_goals
    repeat' (first | (refine And.intro ?_ ?_) | exact rfl | (intro _))
    all_goals first
      | (simp only [decide_eq_true_eq, decide_eq_false_iff_not, Int.ofNat_eq_natCast] at *; omega)
      | (show w.times.g _ = w.times.g (0 + _); rw [Nat.zero_add])
      | (refine Eq.trans ?_ rfl; simp only [decide_eq_true_eq, decide_eq_false_iff_not, Int.ofNat_eq_natCast] at *; simp [Watch.mark1, bump, costOf, *]; done)
      | (refine Eq.trans ?_ rfl; simp only [decide_eq_true_eq, decide_eq_false_iff_not, Int.ofNat_eq_natCast] at *; simp [Watch.mark1, bump, costOf, *]; omega)
      | trace_state
noncomputable def conMark : Con cx := walkCon 14 Tryd.call14 (rds2 rdWatch (rdI .u8)) (fun a => [(a.1.times.n : Int) ≤ 1000000]) (fun a => .tup [(mark a.1 a.2).1.sv, .v (.int .i64 (mark a.1 a.2).2)]) (fun _ => ⟨[], [4], [], 0⟩) [] (fun _ => rfl) follows Tryd.func14 (by kernel_rfl) mark_walk
end Go.Proofs.YtinefblphbicaaaDoor
