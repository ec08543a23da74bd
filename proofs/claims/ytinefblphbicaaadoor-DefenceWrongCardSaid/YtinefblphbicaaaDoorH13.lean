/- Differ. -/
import Derived.Test.YtinefblphbicaaaDoorH12
namespace Go.Proofs.YtinefblphbicaaaDoor
open Go.RowKit

def difB (f g : Fam) (k : Nat) : Bool := decide ((f.n : Int) ≤ k) || decide ((g.n : Int) ≤ k) || decide (¬ f.g (k : Int).toNat = g.g (k : Int).toNat)
def difFrom (f g : Fam) : Nat → Nat → Int
  | 0, _ => -1
  | m + 1, k => if difB f g k then k else difFrom f g m (k + 1)
def dif (f g : Fam) : Int := difFrom f g (max f.n g.n) 0
def difCut (f g : Fam) : Cut := ⟨Nat, fun k => k ≤ max f.n g.n ∧ dif f g = difFrom f g (max f.n g.n - k) k,
  fun k => ⟨[sl 0 (.rs 1 f.n fun i => [.v (.int .u64 (f.g i))]), sl 1 (.rs 1 g.n fun i => [.v (.int .u64 (g.g i))]), sl 10 (.v (.int .i64 (max (f.n : Int) g.n))), sl 11 (.v (.int .i64 k))], [], 0, 0, [], []⟩, fun k => max f.n g.n - k⟩
set_option maxHeartbeats 2000000 in
set_option maxRecDepth 8000 in
theorem differ_walk : ∀ a : Fam × Fam, conj [(a.1.n : Int) ≤ 1000000, (a.2.n : Int) ≤ 1000000] → evFn (C := cx) [] [] 0 ⟨[], [], [2], 0⟩ Tryd.f13 ((rds2 (rdF .u64) (rdF .u64)).enc a) fun v H _ => resOut (.v (.int .i64 (dif a.1 a.2))) H v := by
  intro ⟨f, g⟩ ⟨hn, hm⟩
  replace hn : (f.n : Int) ≤ 1000000 := hn
  replace hm : (g.n : Int) ≤ 1000000 := hm
  refine Exists.intro (difCut f g) ?_
  refine And.intro ?_ ?_
  · refine ⟨(0 : Nat), [], [], trivial, ⟨Nat.zero_le _, rfl⟩, ?_⟩
    repeat' (first | (refine And.intro ?_ ?_) | exact rfl | (intro _))
  refine fun (k : Nat) (hk : k ≤ max f.n g.n ∧ dif f g = difFrom f g (max f.n g.n - k) k) => ?_
  obtain ⟨hk0, hk1⟩ := hk
  refine And.intro (fun hb => ?_) (fun hb => ?_)
  · have hb : (k : Int) < max (f.n : Int) g.n := of_decide_eq_true hb
    have hk2 : k < max f.n g.n := by omega
    obtain ⟨m, hm'⟩ : ∃ m, max f.n g.n - k = m + 1 := ⟨max f.n g.n - k - 1, by omega⟩
    rw [hm'] at hk1
    refine And.intro ?_ ?_
    · repeat' (first | (refine And.intro ?_ ?_) | (intro _))
      all_goals simp only [Bool.or_eq_false_iff, decide_eq_false_iff_not] at * <;> omega
    refine And.intro ?_ ?_
    · repeat' (first | (refine And.intro ?_ ?_) | (intro _))
      all_goals simp only [Bool.or_eq_false_iff, decide_eq_false_iff_not] at * <;> omega
    refine And.intro (fun hc => ?_) (fun hc => ?_)
    · replace hc : difB f g k = true := hc
      simp only [difFrom] at hk1
      rw [if_pos hc] at hk1
      exact hk1
    · replace hc : ¬ difB f g k = true := by
        have : difB f g k = false := hc
        rw [this]
        decide
      simp only [difFrom] at hk1
      rw [if_neg hc] at hk1
      refine And.intro ⟨by omega, by omega⟩ ?_
      refine ⟨(k + 1 : Nat), [], [], ?_, ⟨by omega, ?_⟩, ?_⟩
      · show max f.n g.n - (k + 1) < max f.n g.n - k
        omega
      · rw [show max f.n g.n - (k + 1) = m by omega]
        exact hk1
      · repeat' (first | (refine And.intro ?_ ?_) | exact rfl | (intro _))
  · have hb : ¬ (k : Int) < max (f.n : Int) g.n := of_decide_eq_false hb
    have : max f.n g.n - k = 0 := by omega
    rw [this] at hk1
    exact hk1
noncomputable def conDiffer : Con cx := walkCon 13 Tryd.call13 (rds2 (rdF .u64) (rdF .u64)) (fun a => [(a.1.n : Int) ≤ 1000000, (a.2.n : Int) ≤ 1000000]) (fun a => .v (.int .i64 (dif a.1 a.2))) (fun _ => ⟨[], [], [2], 0⟩) [] (fun _ => rfl) follows Tryd.func13 (by kernel_rfl) differ_walk
end Go.Proofs.YtinefblphbicaaaDoor
