/- compare, root, order. -/
import Derived.Test.YtcbpajkgmpibgaaC1
namespace Go.Proofs.Ytcbpajkgmpibgaa
open Go.RowKit

/-- The first that is not 0, of r numbers from the k-th on. -/
def orN (g : Nat → Int) : Nat → Nat → Int
  | _, 0 => 0
  | k, r + 1 => if g k = 0 then orN g (k + 1) r else g k
def orCut (f : Fam) : Cut := ⟨Nat, fun k => k ≤ f.n ∧ orN f.g 0 f.n = orN f.g k (f.n - k),
  fun k => ⟨[sl 3 (.v (.int .i64 0)), sl 6 (.rs 1 f.n fun i => [.v (.int .i64 (f.g i))]), sl 7 (.v (.int .i64 f.n)), sl 8 (.v (.int .i64 k))], [], 0, 0, [], []⟩, fun k => f.n - k⟩
set_option maxHeartbeats 2000000 in
set_option maxRecDepth 8000 in
theorem Or_walk : ∀ a, conj ((fun f => [(f.n : Int) ≤ 1000000]) a) → evFn (C := cx) [] [] 0 ⟨[], [], [3], 0⟩ Try.f69 (((rds1 (rdF .i64))).enc a) fun v H _ => resOut ((fun f => .v (.int .i64 (orN f.g 0 f.n))) a) H v := by
  intro f (hn : (f.n : Int) ≤ 1000000)
  refine Exists.intro (orCut f) ?_
  refine And.intro ?_ ?_
  · refine ⟨(0 : Nat), [], [], trivial, ⟨Nat.zero_le _, rfl⟩, ?_⟩
    repeat' (first | (refine And.intro ?_ ?_) | (intro _) | exact rfl)
  refine fun (k : Nat) (hk : k ≤ f.n ∧ orN f.g 0 f.n = orN f.g k (f.n - k)) => ?_
  obtain ⟨h1, h2⟩ := hk
  refine And.intro (fun hb => ?_) (fun hb => ?_)
  · have hb : (k : Int) < f.n := of_decide_eq_true hb
    refine And.intro ⟨by omega, by omega⟩ ?_
    have e : orN f.g k (f.n - k) = if f.g k = 0 then orN f.g (k + 1) (f.n - (k + 1)) else f.g k := by
      rw [show f.n - k = (f.n - (k + 1)) + 1 by omega]; rfl
    refine And.intro (fun hc => ?_) (fun hc => ?_)
    · have hc : ¬ f.g k = 0 := by simpa using hc
      refine Eq.trans (a := orN f.g 0 f.n) ?_ rfl
      rw [h2, e, if_neg hc]
      rfl
    · have hc : f.g k = 0 := by simpa using hc
      refine And.intro (by constructor <;> omega) ?_
      refine ⟨k + 1, [], [], (by show f.n - (k + 1) < f.n - k; omega), ⟨by omega, by rw [h2, e, if_pos hc]⟩, ?_⟩
      repeat' (first | (refine And.intro ?_ ?_) | (intro _) | exact rfl)
  · have hb : ¬ (k : Int) < f.n := of_decide_eq_false hb
    refine Eq.trans (a := orN f.g 0 f.n) ?_ rfl
    rw [h2, show f.n - k = 0 by omega]
    rfl
noncomputable def conOr : Con cx := walkCon 69 Try.call69 (rds1 (rdF .i64)) (fun f => [(f.n : Int) ≤ 1000000]) (fun f => .v (.int .i64 (orN f.g 0 f.n))) (fun _ => ⟨[], [], [3], 0⟩) [] (fun _ => rfl) follows Try.func69 (by kernel_rfl) Or_walk
set_option maxHeartbeats 2000000 in
set_option maxRecDepth 8000 in
theorem Wcmp_walk : ∀ a, conj ((fun a => [a.1.In, a.2.In]) a) → evFn (C := cx) [conCmpu, conOr] [] 0 noHow Try.f57 (((rds2 rdWd rdWd)).enc a) fun v H _ => resOut ((fun a => .v (.int .i64 (cmpI a.1.num a.2.num))) a) H v := by
  intro ⟨a, b⟩ ⟨ha, hb⟩
  obtain ⟨a1, a2⟩ : a.In := ha
  obtain ⟨b1, b2⟩ : b.In := hb
  refine And.intro (fun hb => ?_) (fun hb => ?_)
  · refine Eq.trans (a := cmpI a.num b.num) ?_ rfl
    have hb : (decide (a.hi = b.hi) && decide (a.lo = b.lo)) = true := hb
    simp only [Bool.and_eq_true, decide_eq_true_eq] at hb
    unfold Wd.num cmpI
    rw [hb.1, hb.2, if_neg (Int.lt_irrefl _), if_neg (Int.lt_irrefl _)]
    rfl
  · refine And.intro ⟨fun i hi => ?_, (by decide : (2 : Int) ≤ 1000000)⟩ ?_
    · match i, hi with
      | 0, _ => exact trivial
      | 1, _ => exact trivial
    refine Eq.trans (a := cmpI a.num b.num) (b := if cmpI a.hi b.hi = 0 then (if cmpI a.lo b.lo = 0 then 0 else cmpI a.lo b.lo) else cmpI a.hi b.hi) ?_ rfl
    unfold Wd.num cmpI
    repeat' split
    all_goals omega
noncomputable def conWcmp : Con cx := walkCon 57 Try.call57 (rds2 rdWd rdWd) (fun a => [a.1.In, a.2.In]) (fun a => .v (.int .i64 (cmpI a.1.num a.2.num))) (fun _ => noHow) [] (fun _ => rfl) follows Try.func57 (by kernel_rfl) Wcmp_walk
set_option maxHeartbeats 2000000 in
set_option maxRecDepth 8000 in
theorem Root_walk : ∀ a, conj ((fun a => [0 ≤ a.1 ∧ a.1 ≤ 1152921504606846976, 0 ≤ a.2.1 ∧ a.2.1 ≤ 268435456, 0 ≤ a.2.2 ∧ a.2.2 ≤ 1152921504606846976]) a) → evFn (C := cx) [conMul, conWcmp] [] 0 noHow Try.f56 (((rds3 (rdI .i64) (rdI .i64) (rdI .i64))).enc a) fun v H _ => resOut ((fun a => .v (.int .i64 (cmpI (a.1 * a.1) (a.2.1 * a.2.1 * a.2.2)))) a) H v := by
  intro ⟨w, m, s⟩ ⟨h1, h2, h3⟩
  obtain ⟨w0, w1⟩ : 0 ≤ w ∧ w ≤ 1152921504606846976 := h1
  obtain ⟨m0, m1⟩ : 0 ≤ m ∧ m ≤ 268435456 := h2
  obtain ⟨s0, s1⟩ : 0 ≤ s ∧ s ≤ 1152921504606846976 := h3
  have mm : 0 ≤ m * m ∧ m * m ≤ 72057594037927936 := ⟨Int.mul_nonneg m0 m0, Int.le_trans (Int.mul_le_mul m1 m1 m0 (by omega)) (by decide)⟩
  have w2 : 0 ≤ w ∧ w ≤ 9223372036854775807 := ⟨w0, by omega⟩
  have m2 : 0 ≤ m * m ∧ m * m ≤ 9223372036854775807 := ⟨mm.1, by omega⟩
  have s2 : 0 ≤ s ∧ s ≤ 9223372036854775807 := ⟨s0, by omega⟩
  refine And.intro ⟨w2, w2⟩ ?_
  refine And.intro (⟨by omega, by omega⟩ : -9223372036854775808 ≤ m * m ∧ m * m ≤ 9223372036854775807) ?_
  refine And.intro ⟨m2, s2⟩ ?_
  refine And.intro ⟨mulW_in w2 w2, mulW_in m2 s2⟩ ?_
  refine Eq.trans (a := cmpI (w * w) (m * m * s)) (b := cmpI (mulW w w).num (mulW (m * m) s).num) ?_ rfl
  rw [mulW_num, mulW_num]
noncomputable def conRoot : Con cx := walkCon 56 Try.call56 (rds3 (rdI .i64) (rdI .i64) (rdI .i64)) (fun a => [0 ≤ a.1 ∧ a.1 ≤ 1152921504606846976, 0 ≤ a.2.1 ∧ a.2.1 ≤ 268435456, 0 ≤ a.2.2 ∧ a.2.2 ≤ 1152921504606846976]) (fun a => .v (.int .i64 (cmpI (a.1 * a.1) (a.2.1 * a.2.1 * a.2.2)))) (fun _ => noHow) [] (fun _ => rfl) follows Try.func56 (by kernel_rfl) Root_walk
end Go.Proofs.Ytcbpajkgmpibgaa
