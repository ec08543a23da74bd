/- The contract of marked. -/
import Derived.Test.YtinefblphbicaaaDoorH2
namespace Go.Proofs.YtinefblphbicaaaDoor
open Go.RowKit

def costOf (f : Int) : Int := if f = 2 then 2 else if f = 3 then 5 else if f = 4 then 10 else if f = 5 then 10 else if f = 6 then 2 else if f = 7 then 20 else 0
def bump (n : Int) : Int := if n < 1048576 then n + 1 else n
def Watch.mark1 (w : Watch) (f : Int) : Watch :=
  ⟨w.client, w.seq, w.times, if f = 1 then bump w.counts0 else w.counts0, if f = 2 then bump w.counts1 else w.counts1, if f = 3 then bump w.counts2 else w.counts2, if f = 4 then bump w.counts3 else w.counts3,
   if f = 5 then bump w.counts4 else w.counts4, if f = 6 then bump w.counts5 else w.counts5, if f = 7 then bump w.counts6 else w.counts6, min (w.points + costOf f) 1048576, w.since⟩
/-- With the first k flags. -/
def Watch.marks (w : Watch) (l : Fam) : Nat → Watch
  | 0 => w
  | k + 1 => (w.marks l k).mark1 (l.g k)
structure Watch.Fit (w : Watch) : Prop where
  c0 : 0 ≤ w.counts0
  c1 : 0 ≤ w.counts1
  c2 : 0 ≤ w.counts2
  c3 : 0 ≤ w.counts3
  c4 : 0 ≤ w.counts4
  c5 : 0 ≤ w.counts5
  c6 : 0 ≤ w.counts6
  p0 : 0 ≤ w.points
  p1 : w.points ≤ 1048576
theorem bump_nn {n : Int} (h : 0 ≤ n) : 0 ≤ bump n := by unfold bump; split <;> omega
theorem cost_nn (f : Int) : 0 ≤ costOf f := by unfold costOf; repeat' split <;> omega
theorem Watch.Fit.mark1 {w : Watch} (h : w.Fit) (f : Int) : (w.mark1 f).Fit := by
  obtain ⟨h0, h1, h2, h3, h4, h5, h6, p0, p1⟩ := h
  have hc := cost_nn f
  constructor <;> simp only [Watch.mark1] <;> first | (split <;> first | exact bump_nn ‹_› | assumption) | omega
theorem Watch.Fit.marks {w : Watch} (h : w.Fit) (l : Fam) : ∀ k, (w.marks l k).Fit
  | 0 => h
  | k + 1 => (Watch.Fit.marks h l k).mark1 _
def flagOk (l : Fam) : Prop := ∀ i, i < l.n → 1 ≤ l.g i ∧ l.g i ≤ 7
def watch0 : Watch := ⟨0, 0, ⟨0, fun _ => 0⟩, 0, 0, 0, 0, 0, 0, 0, 0, 0⟩
def zeroW : List SV := [.il .i64 0, .il .i64 0, .v (.slice none 0 0), .il .i64 0, .il .i64 0, .il .i64 0, .il .i64 0, .il .i64 0, .il .i64 0, .il .i64 0, .il .i64 0, .il .i64 0]
def mkSl (l : Fam) (k : Nat) : List (Nat × Slot) := [sl 2 (.p 0 0), sl 4 (.p 1 0), sl 8 (.rs 1 l.n fun i => [.v (.int .u8 (l.g i))]), sl 9 (.v (.int .i64 l.n)), sl 10 (.v (.int .i64 k))]
def mkH (w : Watch) (l : Fam) (k : Nat) : Heap := [(0, .lay (w.marks l k).cells 27), (1, .lay zeroW 27)]
def mkInv (w : Watch) (l : Fam) : Cut := ⟨Nat, fun k => k ≤ l.n, fun k => ⟨mkSl l k, mkH w l k, 2, 0, [], []⟩, fun k => l.n - k⟩
def mkCut (w : Watch) (l : Fam) (k : Nat) : Cut := ⟨Int, fun f => f = l.g k, fun f => ⟨sl 6 (.il .u8 f) :: mkSl l k, mkH w l k, 2, 0, [], []⟩, fun _ => 0⟩
set_option maxHeartbeats 2000000 in
set_option maxRecDepth 8000 in
theorem marked_walk : ∀ a : Watch × Fam, conj [a.1.Fit, flagOk a.2, (a.2.n : Int) ≤ 1000000] → evFn (C := cx) [] [] 0 ⟨[], [4], [2], 0⟩ Tryd.f24 ((rds2 rdWatch (rdF .u8)).enc a) fun v H _ => resOut (a.1.marks a.2 a.2.n).sv H v := by
  intro ⟨w, l⟩ ⟨hw, hf, hn⟩
  replace hn : (l.n : Int) ≤ 1000000 := hn
  replace hf : flagOk l := hf
  replace hw : w.Fit := hw
  refine Exists.intro (mkInv w l) ?_
  refine And.intro ?_ ?_
  · refine ⟨(0 : Nat), [], [], trivial, Nat.zero_le _, ?_⟩
    repeat' (first | (refine And.intro ?_ ?_) | (intro _) | exact rfl)
  refine fun (k : Nat) (hk : k ≤ l.n) => ?_
  refine And.intro (fun hb => ?_) (fun hb => ?_)
  · have hb : (k : Int) < l.n := of_decide_eq_true hb
    have hb' : k < l.n := by omega
    refine Exists.intro (mkCut w l k) ?_
    refine And.intro ?_ ?_
    · refine And.intro ⟨by omega, hb⟩ ?_
      refine ⟨l.g k, [], [], trivial, rfl, ?_⟩
      repeat' (first | (refine And.intro ?_ ?_) | (intro _) | exact rfl)
    refine fun (f : Int) (hg : f = l.g k) => ?_
    have hr := hf k hb'
    rw [← hg] at hr
    have : f = 1 ∨ f = 2 ∨ f = 3 ∨ f = 4 ∨ f = 5 ∨ f = 6 ∨ f = 7 := by omega
    have hF := hw.marks l k
    obtain ⟨c0, c1, c2, c3, c4, c5, c6, p0, p1⟩ := hF
    clear hr hf
    obtain rfl | rfl | rfl | rfl | rfl | rfl | rfl := this
    all_goals
      repeat' (first | (refine And.intro ?_ ?_) | (intro _))
    all_goals try (refine Exists.intro (k + 1 : Nat) ?_; refine Exists.intro [] ?_; refine Exists.intro [] ?_; refine And.intro ?_ ?_; (show l.n - (k + 1) < l.n - k; omega); refine And.intro ?_ ?_; (show k + 1 ≤ l.n; omega); repeat' (first | (refine And.intro ?_ ?_) | (intro _) | exact rfl))
    all_goals (try dsimp only at *)
    all_goals (try simp only [decide_eq_true_eq, decide_eq_false_iff_not] at *)
    all_goals (try simp only [Int.ofNat_eq_natCast] at *)
    all_goals first | omega | (simp only [Watch.marks, Watch.mark1, ← hg]; simp [bump, costOf]; done) | (simp only [Watch.marks, Watch.mark1, ← hg]; simp [bump, costOf]; omega)
  · obtain rfl : k = l.n := by simp only [decide_eq_false_iff_not] at hb; omega
    repeat' (first | (refine And.intro ?_ ?_) | (intro _) | exact rfl)
noncomputable def conMarked : Con cx := walkCon 24 Tryd.call24 (rds2 rdWatch (rdF .u8)) (fun a => [a.1.Fit, flagOk a.2, (a.2.n : Int) ≤ 1000000]) (fun a => (a.1.marks a.2 a.2.n).sv) (fun _ => ⟨[], [4], [2], 0⟩) [] (fun _ => rfl) follows Tryd.func24 (by kernel_rfl) marked_walk
end Go.Proofs.YtinefblphbicaaaDoor
