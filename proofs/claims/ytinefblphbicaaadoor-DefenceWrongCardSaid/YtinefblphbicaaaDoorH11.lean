/- Equal lists. -/
import Derived.Test.YtinefblphbicaaaDoorH10
namespace Go.Proofs.YtinefblphbicaaaDoor
open Go.RowKit

def Fam.same (f g : Fam) : Bool := decide (f.n = g.n ∧ ∀ i, i < f.n → f.g i = g.g i)
theorem same_no {f g : Fam} (h : ¬ f.n = g.n) : f.same g = false := decide_eq_false fun c => h c.1
theorem same_no2 {f g : Fam} {k : Nat} (hk : k < f.n) (h : ¬ f.g k = g.g k) : f.same g = false := decide_eq_false fun c => h (c.2 k hk)
theorem same_yes {f g : Fam} (h : f.n = g.n) (h2 : ∀ i, i < f.n → f.g i = g.g i) : f.same g = true := decide_eq_true ⟨h, h2⟩
def cutInts (f g : Fam) : Cut := ⟨Nat, fun k => k ≤ f.n ∧ ∀ j, j < k → f.g j = g.g j,
  fun k => ⟨[sl 0 (.rs 1 f.n fun i => [.v (.int .i64 (f.g i))]), sl 1 (.rs 1 g.n fun i => [.v (.int .i64 (g.g i))]), sl 12 (.v (.int .i64 f.n)), sl 13 (.v (.int .i64 k))], [], 0, 0, [], []⟩, fun k => f.n - k⟩
set_option maxHeartbeats 2000000 in
set_option maxRecDepth 8000 in
theorem Ints_walk : ∀ a : Fam × Fam, conj [(a.1.n : Int) ≤ 1000000, (a.2.n : Int) ≤ 1000000] → evFn (C := cx) [] [] 0 ⟨[], [], [4], 0⟩ Tryd.f34 ((rds2 (rdF .i64) (rdF .i64)).enc a) fun v H _ => resOut (.v (.bool (a.1.same a.2))) H v := by
  intro ⟨f, g⟩ ⟨hn, hm⟩
  replace hn : (f.n : Int) ≤ 1000000 := hn
  replace hm : (g.n : Int) ≤ 1000000 := hm
  refine And.intro (fun hb => ?_) (fun hb => ?_)
  · have hb : ¬ (f.n : Int) = g.n := of_decide_eq_true hb
    exact same_no (f := f) (g := g) (by omega)
  have hb : ¬ ¬ (f.n : Int) = g.n := of_decide_eq_false hb
  have he : f.n = g.n := by omega
  refine Exists.intro (cutInts f g) ?_
  refine And.intro ?_ ?_
  · refine ⟨(0 : Nat), [], [], trivial, ⟨Nat.zero_le _, fun j hj => absurd hj (Nat.not_lt_zero _)⟩, ?_⟩
    repeat' (first | (refine And.intro ?_ ?_) | exact rfl | (intro _))
  refine fun (k : Nat) (hk : k ≤ f.n ∧ ∀ j, j < k → f.g j = g.g j) => ?_
  obtain ⟨hk0, hk1⟩ := hk
  refine And.intro (fun hb => ?_) (fun hb => ?_)
  · have hb : (k : Int) < f.n := of_decide_eq_true hb
    refine And.intro ⟨by omega, hb⟩ ?_
    refine And.intro ⟨by omega, by omega⟩ ?_
    refine And.intro (fun hc => ?_) (fun hc => ?_)
    · have hc : ¬ f.g (k : Int).toNat = g.g (k : Int).toNat := of_decide_eq_true hc
      exact same_no2 (f := f) (g := g) (k := (k : Int).toNat) (by omega) hc
    · have hc : ¬ ¬ f.g (k : Int).toNat = g.g (k : Int).toNat := of_decide_eq_false hc
      refine And.intro ⟨by omega, by omega⟩ ?_
      refine ⟨(k + 1 : Nat), [], [], ?_, ⟨by omega, fun j hj => ?_⟩, ?_⟩
      · show f.n - (k + 1) < f.n - k
        omega
      · by_cases e : j = k
        · subst e
          exact Decidable.not_not.1 hc
        · exact hk1 j (by omega)
      · repeat' (first | (refine And.intro ?_ ?_) | exact rfl | (intro _))
  · have hb : ¬ (k : Int) < f.n := of_decide_eq_false hb
    exact same_yes (f := f) (g := g) he fun j hj => hk1 j (by omega)
noncomputable def conInts : Con cx := walkCon 34 Tryd.call34 (rds2 (rdF .i64) (rdF .i64)) (fun a => [(a.1.n : Int) ≤ 1000000, (a.2.n : Int) ≤ 1000000]) (fun a => .v (.bool (a.1.same a.2))) (fun _ => ⟨[], [], [4], 0⟩) [] (fun _ => rfl) follows Tryd.func34 (by kernel_rfl) Ints_walk
def cutFlags (f g : Fam) : Cut := ⟨Nat, fun k => k ≤ f.n ∧ ∀ j, j < k → f.g j = g.g j,
  fun k => ⟨[sl 0 (.rs 1 f.n fun i => [.v (.int .u8 (f.g i))]), sl 1 (.rs 1 g.n fun i => [.v (.int .u8 (g.g i))]), sl 12 (.v (.int .i64 f.n)), sl 13 (.v (.int .i64 k))], [], 0, 0, [], []⟩, fun k => f.n - k⟩
set_option maxHeartbeats 2000000 in
set_option maxRecDepth 8000 in
theorem Flags_walk : ∀ a : Fam × Fam, conj [(a.1.n : Int) ≤ 1000000, (a.2.n : Int) ≤ 1000000] → evFn (C := cx) [] [] 0 ⟨[], [], [4], 0⟩ Tryd.f33 ((rds2 (rdF .u8) (rdF .u8)).enc a) fun v H _ => resOut (.v (.bool (a.1.same a.2))) H v := by
  intro ⟨f, g⟩ ⟨hn, hm⟩
  replace hn : (f.n : Int) ≤ 1000000 := hn
  replace hm : (g.n : Int) ≤ 1000000 := hm
  refine And.intro (fun hb => ?_) (fun hb => ?_)
  · have hb : ¬ (f.n : Int) = g.n := of_decide_eq_true hb
    exact same_no (f := f) (g := g) (by omega)
  have hb : ¬ ¬ (f.n : Int) = g.n := of_decide_eq_false hb
  have he : f.n = g.n := by omega
  refine Exists.intro (cutFlags f g) ?_
  refine And.intro ?_ ?_
  · refine ⟨(0 : Nat), [], [], trivial, ⟨Nat.zero_le _, fun j hj => absurd hj (Nat.not_lt_zero _)⟩, ?_⟩
    repeat' (first | (refine And.intro ?_ ?_) | exact rfl | (intro _))
  refine fun (k : Nat) (hk : k ≤ f.n ∧ ∀ j, j < k → f.g j = g.g j) => ?_
  obtain ⟨hk0, hk1⟩ := hk
  refine And.intro (fun hb => ?_) (fun hb => ?_)
  · have hb : (k : Int) < f.n := of_decide_eq_true hb
    refine And.intro ⟨by omega, hb⟩ ?_
    refine And.intro ⟨by omega, by omega⟩ ?_
    refine And.intro (fun hc => ?_) (fun hc => ?_)
    · have hc : ¬ f.g (k : Int).toNat = g.g (k : Int).toNat := of_decide_eq_true hc
      exact same_no2 (f := f) (g := g) (k := (k : Int).toNat) (by omega) hc
    · have hc : ¬ ¬ f.g (k : Int).toNat = g.g (k : Int).toNat := of_decide_eq_false hc
      refine And.intro ⟨by omega, by omega⟩ ?_
      refine ⟨(k + 1 : Nat), [], [], ?_, ⟨by omega, fun j hj => ?_⟩, ?_⟩
      · show f.n - (k + 1) < f.n - k
        omega
      · by_cases e : j = k
        · subst e
          exact Decidable.not_not.1 hc
        · exact hk1 j (by omega)
      · repeat' (first | (refine And.intro ?_ ?_) | exact rfl | (intro _))
  · have hb : ¬ (k : Int) < f.n := of_decide_eq_false hb
    exact same_yes (f := f) (g := g) he fun j hj => hk1 j (by omega)
noncomputable def conFlags : Con cx := walkCon 33 Tryd.call33 (rds2 (rdF .u8) (rdF .u8)) (fun a => [(a.1.n : Int) ≤ 1000000, (a.2.n : Int) ≤ 1000000]) (fun a => .v (.bool (a.1.same a.2))) (fun _ => ⟨[], [], [4], 0⟩) [] (fun _ => rfl) follows Tryd.func33 (by kernel_rfl) Flags_walk
end Go.Proofs.YtinefblphbicaaaDoor
