/- Contracts of small functions. -/
import Derived.Test.YtinefblphbicaaaDoorH0
import Derived.Test.YtinefblphbicaaaDoorG18
namespace Go.Proofs.YtinefblphbicaaaDoor
open Go.RowKit

theorem follows : cx.P.follows .mixedOrders = true := by kernel_rfl
/-- A slot, as it stands. -/
def sl (t : Nat) (v : SV) : Nat × Slot := (t, ⟨0, 0, [], v⟩)
def isTick (n : Int) : Bool := decide (0 ≤ n) && decide (n ≤ 1073741824)
def conTick : Con cx := walkCon (Γ := []) (Fs := []) (d := 0) 17 Tryd.call17 (rds1 (rdI .i64)) (fun _ => []) (fun n => .v (.bool (isTick n))) (fun _ => noHow) [] (fun _ => rfl) follows Tryd.func17 (by kernel_rfl)
  fun n _ => (show (_ : Bool) = _ from rfl)
def conNaN : Con cx := walkCon (Γ := []) (Fs := []) (d := 0) 45 Tryd.call45 (rds1 (rdI .i64)) (fun _ => []) (fun n => .v (.bool false)) (fun _ => noHow) [] (fun _ => rfl) follows Tryd.func45 (by kernel_rfl)
  fun n _ => by show (_ : Bool) = _; simp
def conLess : Con cx := walkCon (Γ := [conNaN]) (Fs := []) (d := 0) 37 Tryd.call37 (rds2 (rdI .i64) (rdI .i64)) (fun _ => []) (fun n => .v (.bool (decide (n.1 < n.2)))) (fun _ => noHow) [] (fun _ => rfl) follows Tryd.func37 (by kernel_rfl)
  fun n _ => by show (_ : Bool) = _; simp
def conNeg : Con cx := walkCon (Γ := []) (Fs := []) (d := 0) 32 Tryd.call32 (rds1 (rdI .i64)) (fun _ => []) (fun n => .v (.bool (decide (n < 0)))) (fun _ => noHow) [] (fun _ => rfl) follows Tryd.func32 (by kernel_rfl)
  fun n _ => by show (_ : Bool) = _; rfl

def Fam.sorted (f : Fam) : Bool := decide (∀ i, i < f.n - 1 → f.g i ≤ f.g (i + 1))
def sortCut (f : Fam) : Cut := ⟨Int, fun i => -1 ≤ i ∧ i ≤ f.n - 1 ∧ ∀ k : Nat, i ≤ k → k < f.n - 1 → f.g k ≤ f.g (k + 1),
  fun i => ⟨[sl 0 (.rs 1 f.n fun i => [.v (.int .i64 (f.g i))]), sl 3 (.v (.int .i64 i))], [], 0, 0, [], []⟩, fun i => (i + 1).toNat⟩
theorem sorted_walk : ∀ f : Fam, conj [(f.n : Int) ≤ 1000000] → evFn (C := cx) [conLess] [] 0 ⟨[], [], [2], 0⟩ Tryd.f30 ((rds1 (rdF .i64)).enc f) fun v H _ => resOut (.v (.bool f.sorted)) H v := by
  intro f (hn : (f.n : Int) ≤ 1000000)
  refine And.intro ?_ ?_
  · constructor <;> omega
  refine Exists.intro (sortCut f) ?_
  refine And.intro ?_ ?_
  · refine ⟨(f.n : Int) - 1, [], [], trivial, ⟨by omega, by omega, fun k h1 h2 => by omega⟩, ?_⟩
    repeat' (first | (refine And.intro ?_ ?_) | (intro _) | exact rfl)
  refine fun (i : Int) (hi : -1 ≤ i ∧ i ≤ f.n - 1 ∧ ∀ k : Nat, i ≤ k → k < f.n - 1 → f.g k ≤ f.g (k + 1)) => ?_
  obtain ⟨h1, h2, h3⟩ := hi
  refine And.intro (fun hb => ?_) (fun hb => ?_)
  · have hb : 0 < i := of_decide_eq_true hb
    refine And.intro ⟨by omega, by omega⟩ ?_
    refine And.intro (by constructor <;> omega) ?_
    refine And.intro ⟨by omega, by omega⟩ ?_
    refine And.intro (fun hc => ?_) (fun hc => ?_)
    · have hc : f.g i.toNat < f.g (i - 1).toNat := of_decide_eq_true hc
      refine Eq.trans ?_ rfl
      have : ¬ f.sorted = true := by
        unfold Fam.sorted
        rw [decide_eq_true_eq]
        intro hs
        have := hs (i - 1).toNat (by omega)
        rw [show (i - 1).toNat + 1 = i.toNat by omega] at this
        omega
      simpa using this
    · have hc : ¬ f.g i.toNat < f.g (i - 1).toNat := of_decide_eq_false hc
      refine And.intro (by constructor <;> omega) ?_
      refine ⟨i - 1, [], [], ?_, ⟨by omega, by omega, fun k q1 q2 => ?_⟩, ?_⟩
      · show (i - 1 + 1).toNat < (i + 1).toNat
        omega
      · by_cases hk : i ≤ k
        · exact h3 k hk q2
        · rw [show k = (i - 1).toNat by omega, show (i - 1).toNat + 1 = i.toNat by omega]
          omega
      · repeat' (first | (refine And.intro ?_ ?_) | (intro _) | exact rfl)
  · have hb : ¬ 0 < i := of_decide_eq_false hb
    refine Eq.trans ?_ rfl
    unfold Fam.sorted
    rw [decide_eq_true_eq]
    intro k hk
    exact h3 k (by omega) hk
def conSorted : Con cx := walkCon 30 Tryd.call30 (rds1 (rdF .i64)) (fun f => [(f.n : Int) ≤ 1000000]) (fun f => .v (.bool f.sorted)) (fun f => ⟨[], [], [2], 0⟩) [] (fun _ => rfl) follows Tryd.func30 (by kernel_rfl) sorted_walk
end Go.Proofs.YtinefblphbicaaaDoor
