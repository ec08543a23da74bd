/- compare, root, order. The contract of order. Small functions: between, Valid, Bounds, Has, inside, short. Bounds, Has, inside, short, enter. -/
import Derived.Test.YtjdohgcolhpegaaGreatDoorM0
namespace Go.Proofs.YtjdohgcolhpegaaGreatDoor
open Go.RowKit

/-- The first that is not 0, of r numbers from the k-th on. -/
def orN (g : Nat → Int) : Nat → Nat → Int
  | _, 0 => 0
  | k, r + 1 => if g k = 0 then orN g (k + 1) r else g k
def orCut (f : Fam) : Cut := ⟨Nat, fun k => k ≤ f.n ∧ orN f.g 0 f.n = orN f.g k (f.n - k),
  fun k => ⟨[sl 3 (.v (.int .i64 0)), sl 6 (.rs 1 f.n fun i => [.v (.int .i64 (f.g i))]), sl 7 (.v (.int .i64 f.n)), sl 8 (.v (.int .i64 k))], [], 0, 0, [], []⟩, fun k => f.n - k⟩
set_option maxHeartbeats 2000000 in
set_option maxRecDepth 8000 in
theorem Or_walk : ∀ a, conj ((fun f => [(f.n : Int) ≤ 1000000]) a) → evFn (C := cx) [] [] 0 ⟨[], [], [3], 0⟩ Tryz.f120 (((rds1 (rdF .i64))).enc a) fun v H _ => resOut ((fun f => .v (.int .i64 (orN f.g 0 f.n))) a) H v := by
  intro f (hn : (f.n : Int) ≤ 1000000)
  refine Exists.intro (orCut f) ?_
  refine And.intro ?_ ?_
  · refine ⟨(0 : Nat), [], [], trivial, ⟨Nat.zero_le _, rfl⟩, ?_⟩
    repeat' (first | (refine And.intro ?_ ?_) | (intro _) | exact rfl)
  refine fun (k : Nat) (hk : k ≤ f.n ∧ orN f.g 0 f.n = orN f.g k (f.n - k)) => ?_
  obtain ⟨h1, h2⟩ := hk
  refine And.intro (fun hb => ?_) (fun hb => ?_)
  · have hb : (k : Int) < f.n := of_decide_eq_true hb
    refine And.intro ⟨by omega, by omega⟩ ?_
    have e : orN f.g k (f.n - k) = if f.g k = 0 then orN f.g (k + 1) (f.n - (k + 1)) else f.g k := by
      rw [show f.n - k = (f.n - (k + 1)) + 1 by omega]; rfl
    refine And.intro (fun hc => ?_) (fun hc => ?_)
    · have hc : ¬ f.g k = 0 := by simpa using hc
      refine Eq.trans (a := orN f.g 0 f.n) ?_ rfl
      rw [h2, e, if_neg hc]
      rfl
    · have hc : f.g k = 0 := by simpa using hc
      refine And.intro (by constructor <;> omega) ?_
      refine ⟨k + 1, [], [], (by show f.n - (k + 1) < f.n - k; omega), ⟨by omega, by rw [h2, e, if_pos hc]⟩, ?_⟩
      repeat' (first | (refine And.intro ?_ ?_) | (intro _) | exact rfl)
  · have hb : ¬ (k : Int) < f.n := of_decide_eq_false hb
    refine Eq.trans (a := orN f.g 0 f.n) ?_ rfl
    rw [h2, show f.n - k = 0 by omega]
    rfl
noncomputable def conOr : Con cx := walkCon 120 Tryz.call120 (rds1 (rdF .i64)) (fun f => [(f.n : Int) ≤ 1000000]) (fun f => .v (.int .i64 (orN f.g 0 f.n))) (fun _ => ⟨[], [], [3], 0⟩) [] (fun _ => rfl) follows Tryz.func120 (by kernel_rfl) Or_walk
set_option maxHeartbeats 2000000 in
set_option maxRecDepth 8000 in
theorem Wcmp_walk : ∀ a, conj ((fun a => [a.1.In, a.2.In]) a) → evFn (C := cx) [conCmpu, conOr] [] 0 noHow Tryz.f97 (((rds2 rdWd rdWd)).enc a) fun v H _ => resOut ((fun a => .v (.int .i64 (cmpI a.1.num a.2.num))) a) H v := by
  intro ⟨a, b⟩ ⟨ha, hb⟩
  obtain ⟨a1, a2⟩ : a.In := ha
  obtain ⟨b1, b2⟩ : b.In := hb
  refine And.intro (fun hb => ?_) (fun hb => ?_)
  · refine Eq.trans (a := cmpI a.num b.num) ?_ rfl
    have hb : (decide (a.hi = b.hi) && decide (a.lo = b.lo)) = true := hb
    simp only [Bool.and_eq_true, decide_eq_true_eq] at hb
    unfold Wd.num cmpI
    rw [hb.1, hb.2, if_neg (Int.lt_irrefl _), if_neg (Int.lt_irrefl _)]
    rfl
  · refine And.intro ⟨fun i hi => ?_, (by decide : (2 : Int) ≤ 1000000)⟩ ?_
    · match i, hi with
      | 0, _ => exact trivial
      | 1, _ => exact trivial
    refine Eq.trans (a := cmpI a.num b.num) (b := if cmpI a.hi b.hi = 0 then (if cmpI a.lo b.lo = 0 then 0 else cmpI a.lo b.lo) else cmpI a.hi b.hi) ?_ rfl
    unfold Wd.num cmpI
    repeat' split
    all_goals omega
noncomputable def conWcmp : Con cx := walkCon 97 Tryz.call97 (rds2 rdWd rdWd) (fun a => [a.1.In, a.2.In]) (fun a => .v (.int .i64 (cmpI a.1.num a.2.num))) (fun _ => noHow) [] (fun _ => rfl) follows Tryz.func97 (by kernel_rfl) Wcmp_walk
set_option maxHeartbeats 2000000 in
set_option maxRecDepth 8000 in
theorem Root_walk : ∀ a, conj ((fun a => [0 ≤ a.1 ∧ a.1 ≤ 1152921504606846976, 0 ≤ a.2.1 ∧ a.2.1 ≤ 268435456, 0 ≤ a.2.2 ∧ a.2.2 ≤ 1152921504606846976]) a) → evFn (C := cx) [conMul, conWcmp] [] 0 noHow Tryz.f96 (((rds3 (rdI .i64) (rdI .i64) (rdI .i64))).enc a) fun v H _ => resOut ((fun a => .v (.int .i64 (cmpI (a.1 * a.1) (a.2.1 * a.2.1 * a.2.2)))) a) H v := by
  intro ⟨w, m, s⟩ ⟨h1, h2, h3⟩
  obtain ⟨w0, w1⟩ : 0 ≤ w ∧ w ≤ 1152921504606846976 := h1
  obtain ⟨m0, m1⟩ : 0 ≤ m ∧ m ≤ 268435456 := h2
  obtain ⟨s0, s1⟩ : 0 ≤ s ∧ s ≤ 1152921504606846976 := h3
  have mm : 0 ≤ m * m ∧ m * m ≤ 72057594037927936 := ⟨Int.mul_nonneg m0 m0, Int.le_trans (Int.mul_le_mul m1 m1 m0 (by omega)) (by decide)⟩
  have w2 : 0 ≤ w ∧ w ≤ 9223372036854775807 := ⟨w0, by omega⟩
  have m2 : 0 ≤ m * m ∧ m * m ≤ 9223372036854775807 := ⟨mm.1, by omega⟩
  have s2 : 0 ≤ s ∧ s ≤ 9223372036854775807 := ⟨s0, by omega⟩
  refine And.intro ⟨w2, w2⟩ ?_
  refine And.intro (⟨by omega, by omega⟩ : -9223372036854775808 ≤ m * m ∧ m * m ≤ 9223372036854775807) ?_
  refine And.intro ⟨m2, s2⟩ ?_
  refine And.intro ⟨mulW_in w2 w2, mulW_in m2 s2⟩ ?_
  refine Eq.trans (a := cmpI (w * w) (m * m * s)) (b := cmpI (mulW w w).num (mulW (m * m) s).num) ?_ rfl
  rw [mulW_num, mulW_num]
noncomputable def conRoot : Con cx := walkCon 96 Tryz.call96 (rds3 (rdI .i64) (rdI .i64) (rdI .i64)) (fun a => [0 ≤ a.1 ∧ a.1 ≤ 1152921504606846976, 0 ≤ a.2.1 ∧ a.2.1 ≤ 268435456, 0 ≤ a.2.2 ∧ a.2.2 ≤ 1152921504606846976]) (fun a => .v (.int .i64 (cmpI (a.1 * a.1) (a.2.1 * a.2.1 * a.2.2)))) (fun _ => noHow) [] (fun _ => rfl) follows Tryz.func96 (by kernel_rfl) Root_walk
end Go.Proofs.YtjdohgcolhpegaaGreatDoor
namespace Go.Proofs.YtjdohgcolhpegaaGreatDoor
open Go.RowKit

structure Plc.In (p : Plc) : Prop where
  n : -536870912 ≤ p.n ∧ p.n ≤ 536870912
  s : 0 ≤ p.s ∧ p.s ≤ 288230376151711744
  m : 0 ≤ p.m ∧ p.m ≤ 134217728
theorem ordP_R {x y : Plc} (h : y.s = 0) (h2 : ¬ (x.s = 0 ∧ y.s = 0)) : ordP x y = if 0 ≤ x.n * y.m - y.n * x.m then cmpI ((x.n * y.m - y.n * x.m) * (x.n * y.m - y.n * x.m)) (y.m * y.m * x.s) else -1 := by
  unfold ordP; rw [if_neg h2, if_pos h]; rfl
theorem ordP_B {x y : Plc} (h1 : x.s ≠ 0) (h2 : ¬ y.s = 0) (h3 : ¬ x.n < y.n) : ordP x y = ordB x y := by
  unfold ordP; rw [if_neg (fun h => h1 h.1), if_neg h2, if_neg h1, if_neg h3]
theorem cmpI_rng (x y : Int) : -1 ≤ cmpI x y ∧ cmpI x y ≤ 1 := by unfold cmpI; split <;> (try split) <;> omega
theorem ordP_rng (x y : Plc) : -1 ≤ ordP x y ∧ ordP x y ≤ 1 := by
  unfold ordP ordR ordB
  repeat' split
  all_goals first | exact cmpI_rng _ _ | omega | (have := cmpI_rng ((y.n * x.m - x.n * y.m) * (y.n * x.m - x.n * y.m)) (x.m * x.m * y.s); omega) | skip
  have := cmpI_rng (4 * (y.n - x.n) * (y.n - x.n) * x.s) ((y.s - x.s - (y.n - x.n) * (y.n - x.n)) * (y.s - x.s - (y.n - x.n) * (y.n - x.n)))
  omega
theorem mul_rng {x y a b : Int} (hx : -a ≤ x ∧ x ≤ a) (hy : 0 ≤ y ∧ y ≤ b) : -(a * b) ≤ x * y ∧ x * y ≤ a * b := by
  have ha : 0 ≤ a := by omega
  have h1 := Int.mul_le_mul hx.2 hy.2 hy.1 ha
  have h2 := Int.mul_le_mul (a := -x) (by omega) hy.2 hy.1 ha
  rw [Int.neg_mul] at h2
  omega
set_option maxHeartbeats 2000000 in
set_option maxRecDepth 8000 in
theorem Ord1_walk : ∀ a, conj ((fun a => [a.1.In, a.2.In, a.2.s = 0 ∨ a.1.s ≠ 0 ∧ ¬ a.1.n < a.2.n]) a) → evFn (C := cx) [conCmp, conRoot, conMul, conWcmp] [] 0 noHow Tryz.f66 (((rds2 rdPlc rdPlc)).enc a) fun v H _ => resOut ((fun a => .v (.int .i64 (ordP a.1 a.2))) a) H v := by
  intro ⟨x, y⟩ ⟨hx, hy, hxy⟩
  replace hx : x.In := hx
  replace hy : y.In := hy
  replace hxy : y.s = 0 ∨ x.s ≠ 0 ∧ ¬ x.n < y.n := hxy
  have r1 := mul_rng hx.n hy.m
  have r2 := mul_rng hy.n hx.m
  have i1 : -9223372036854775808 ≤ x.n * y.m ∧ x.n * y.m ≤ 9223372036854775807 := by omega
  have i2 : -9223372036854775808 ≤ y.n * x.m ∧ y.n * x.m ≤ 9223372036854775807 := by omega
  have i3 : -9223372036854775808 ≤ x.n * y.m - y.n * x.m ∧ x.n * y.m - y.n * x.m ≤ 9223372036854775807 := by omega
  refine And.intro (fun hb => ?_) (fun hb => ?_)
  · have hb : (decide (x.s = 0) && decide (y.s = 0)) = true := hb
    simp only [Bool.and_eq_true, decide_eq_true_eq] at hb
    refine And.intro i1 ?_
    refine And.intro i2 ?_
    refine Eq.trans (a := ordP x y) (b := cmpI (x.n * y.m) (y.n * x.m)) ?_ rfl
    unfold ordP; rw [if_pos hb]
  have hb : (decide (x.s = 0) && decide (y.s = 0)) = false := hb
  have hz : ¬ (x.s = 0 ∧ y.s = 0) := by intro h; simp [h.1, h.2] at hb
  refine And.intro (fun hc => ?_) (fun hc => ?_)
  · have hc : y.s = 0 := of_decide_eq_true hc
    refine And.intro i1 ?_
    refine And.intro i2 ?_
    refine And.intro i3 ?_
    have hs1 := hx.s
    refine And.intro (fun hd => ?_) (fun hd => ?_)
    · have hd : 0 ≤ x.n * y.m - y.n * x.m := of_decide_eq_true hd
      have hm1 := hy.m
      refine And.intro ⟨⟨hd, by show x.n * y.m - y.n * x.m ≤ 1152921504606846976; omega⟩, ⟨hm1.1, by show y.m ≤ 268435456; omega⟩, ⟨hs1.1, by show x.s ≤ 1152921504606846976; omega⟩⟩ ?_
      refine Eq.trans (a := ordP x y) (b := cmpI ((x.n * y.m - y.n * x.m) * (x.n * y.m - y.n * x.m)) (y.m * y.m * x.s)) ?_ rfl
      rw [ordP_R hc hz, if_pos hd]
    · have hd : ¬ 0 ≤ x.n * y.m - y.n * x.m := of_decide_eq_false hd
      refine Eq.trans (a := ordP x y) (b := -1) ?_ rfl
      rw [ordP_R hc hz, if_neg hd]
  · have hc : ¬ y.s = 0 := of_decide_eq_false hc
    have hxy := hxy.resolve_left hc
    refine And.intro (fun hd => absurd (of_decide_eq_true hd) hxy.1) (fun _ => ?_)
    refine And.intro (fun hd => absurd (of_decide_eq_true hd) hxy.2) (fun _ => ?_)
    have hn := hxy.2
    have n1 := hx.n
    have n2 := hy.n
    have s1 := hx.s
    have s2 := hy.s
    have hd : 0 ≤ x.n - y.n ∧ x.n - y.n ≤ 1073741824 := by omega
    have hdd : 0 ≤ (x.n - y.n) * (x.n - y.n) ∧ (x.n - y.n) * (x.n - y.n) ≤ 1152921504606846976 := ⟨Int.mul_nonneg hd.1 hd.1, Int.le_trans (Int.mul_le_mul hd.2 hd.2 hd.1 (by omega)) (by decide)⟩
    have he : ordP x y = ordB x y := ordP_B hxy.1 hc hxy.2
    refine And.intro (by constructor <;> omega : -9223372036854775808 ≤ x.n - y.n ∧ x.n - y.n ≤ 9223372036854775807) ?_
    refine And.intro (by constructor <;> omega : -9223372036854775808 ≤ x.s - y.s ∧ x.s - y.s ≤ 9223372036854775807) ?_
    refine And.intro (by constructor <;> omega : -9223372036854775808 ≤ (x.n - y.n) * (x.n - y.n) ∧ (x.n - y.n) * (x.n - y.n) ≤ 9223372036854775807) ?_
    refine And.intro (by constructor <;> omega : -9223372036854775808 ≤ x.s - y.s - (x.n - y.n) * (x.n - y.n) ∧ x.s - y.s - (x.n - y.n) * (x.n - y.n) ≤ 9223372036854775807) ?_
    refine And.intro (fun hf => ?_) (fun hf => ?_)
    · have hf : x.s - y.s - (x.n - y.n) * (x.n - y.n) < 0 := of_decide_eq_true hf
      refine Eq.trans (a := ordP x y) (b := 1) ?_ rfl
      rw [he]; unfold ordB; rw [if_pos hf]
    · have hf : ¬ x.s - y.s - (x.n - y.n) * (x.n - y.n) < 0 := of_decide_eq_false hf
      have e4 : 4 * (x.n - y.n) * (x.n - y.n) = 4 * ((x.n - y.n) * (x.n - y.n)) := by grind
      refine And.intro (by constructor <;> omega : -9223372036854775808 ≤ 4 * (x.n - y.n) ∧ 4 * (x.n - y.n) ≤ 9223372036854775807) ?_
      refine And.intro (by constructor <;> omega : -9223372036854775808 ≤ 4 * (x.n - y.n) * (x.n - y.n) ∧ 4 * (x.n - y.n) * (x.n - y.n) ≤ 9223372036854775807) ?_
      have p1 : 0 ≤ 4 * (x.n - y.n) * (x.n - y.n) ∧ 4 * (x.n - y.n) * (x.n - y.n) ≤ 9223372036854775807 := by constructor <;> omega
      have p2 : 0 ≤ y.s ∧ y.s ≤ 9223372036854775807 := by omega
      have p3 : 0 ≤ x.s - y.s - (x.n - y.n) * (x.n - y.n) ∧ x.s - y.s - (x.n - y.n) * (x.n - y.n) ≤ 9223372036854775807 := by constructor <;> omega
      refine And.intro ⟨p1, p2⟩ ?_
      refine And.intro ⟨p3, p3⟩ ?_
      refine And.intro ⟨mulW_in p1 p2, mulW_in p3 p3⟩ ?_
      refine Eq.trans (a := ordP x y) (b := cmpI (mulW (4 * (x.n - y.n) * (x.n - y.n)) y.s).num (mulW (x.s - y.s - (x.n - y.n) * (x.n - y.n)) (x.s - y.s - (x.n - y.n) * (x.n - y.n))).num) ?_ rfl
      rw [he, mulW_num, mulW_num]; unfold ordB; rw [if_neg hf]
noncomputable def conOrd1 : Con cx := walkCon 66 Tryz.call66 (rds2 rdPlc rdPlc) (fun a => [a.1.In, a.2.In, a.2.s = 0 ∨ a.1.s ≠ 0 ∧ ¬ a.1.n < a.2.n]) (fun a => .v (.int .i64 (ordP a.1 a.2))) (fun _ => noHow) [] (fun _ => rfl) follows Tryz.func66 (by kernel_rfl) Ord1_walk
set_option maxHeartbeats 2000000 in
set_option maxRecDepth 8000 in
theorem Ord_walk : ∀ a, conj ((fun a => [a.1.In, a.2.In]) a) → evFn (C := cx) [conOrd1, conCmp, conRoot, conMul, conWcmp] [] 0 noHow Tryz.f66 (((rds2 rdPlc rdPlc)).enc a) fun v H _ => resOut ((fun a => .v (.int .i64 (ordP a.1 a.2))) a) H v := by
  intro ⟨x, y⟩ ⟨hx, hy⟩
  replace hx : x.In := hx
  replace hy : y.In := hy
  have r1 := mul_rng hx.n hy.m
  have r2 := mul_rng hy.n hx.m
  have i1 : -9223372036854775808 ≤ x.n * y.m ∧ x.n * y.m ≤ 9223372036854775807 := by omega
  have i2 : -9223372036854775808 ≤ y.n * x.m ∧ y.n * x.m ≤ 9223372036854775807 := by omega
  have i3 : -9223372036854775808 ≤ x.n * y.m - y.n * x.m ∧ x.n * y.m - y.n * x.m ≤ 9223372036854775807 := by omega
  refine And.intro (fun hb => ?_) (fun hb => ?_)
  · have hb : (decide (x.s = 0) && decide (y.s = 0)) = true := hb
    simp only [Bool.and_eq_true, decide_eq_true_eq] at hb
    refine And.intro i1 ?_
    refine And.intro i2 ?_
    refine Eq.trans (a := ordP x y) (b := cmpI (x.n * y.m) (y.n * x.m)) ?_ rfl
    unfold ordP; rw [if_pos hb]
  have hb : (decide (x.s = 0) && decide (y.s = 0)) = false := hb
  have hz : ¬ (x.s = 0 ∧ y.s = 0) := by intro h; simp [h.1, h.2] at hb
  refine And.intro (fun hc => ?_) (fun hc => ?_)
  · have hc : y.s = 0 := of_decide_eq_true hc
    refine And.intro i1 ?_
    refine And.intro i2 ?_
    refine And.intro i3 ?_
    have hs1 := hx.s
    refine And.intro (fun hd => ?_) (fun hd => ?_)
    · have hd : 0 ≤ x.n * y.m - y.n * x.m := of_decide_eq_true hd
      have hm1 := hy.m
      refine And.intro ⟨⟨hd, by show x.n * y.m - y.n * x.m ≤ 1152921504606846976; omega⟩, ⟨hm1.1, by show y.m ≤ 268435456; omega⟩, ⟨hs1.1, by show x.s ≤ 1152921504606846976; omega⟩⟩ ?_
      refine Eq.trans (a := ordP x y) (b := cmpI ((x.n * y.m - y.n * x.m) * (x.n * y.m - y.n * x.m)) (y.m * y.m * x.s)) ?_ rfl
      rw [ordP_R hc hz, if_pos hd]
    · have hd : ¬ 0 ≤ x.n * y.m - y.n * x.m := of_decide_eq_false hd
      refine Eq.trans (a := ordP x y) (b := -1) ?_ rfl
      rw [ordP_R hc hz, if_neg hd]
  · have hc : ¬ y.s = 0 := of_decide_eq_false hc
    have hg := ordP_rng y x
    have hng : -9223372036854775808 ≤ -ordP y x ∧ -ordP y x ≤ 9223372036854775807 := by omega
    refine And.intro (fun hd => ?_) (fun hd => ?_)
    · have hd : x.s = 0 := of_decide_eq_true hd
      refine And.intro ⟨hy, hx, .inl hd⟩ ?_
      refine And.intro hng ?_
      refine Eq.trans (a := ordP x y) (b := -ordP y x) (ordP_neg y x) rfl
    have hd : ¬ x.s = 0 := of_decide_eq_false hd
    refine And.intro (fun hf => ?_) (fun hf => ?_)
    · have hf : x.n < y.n := of_decide_eq_true hf
      refine And.intro ⟨hy, hx, .inr ⟨hc, (by omega : ¬ y.n < x.n)⟩⟩ ?_
      refine And.intro hng ?_
      refine Eq.trans (a := ordP x y) (b := -ordP y x) (ordP_neg y x) rfl
    have hf : ¬ x.n < y.n := of_decide_eq_false hf
    have hxy : x.s ≠ 0 ∧ ¬ x.n < y.n := ⟨hd, hf⟩
    have hn := hxy.2
    have n1 := hx.n
    have n2 := hy.n
    have s1 := hx.s
    have s2 := hy.s
    have hd : 0 ≤ x.n - y.n ∧ x.n - y.n ≤ 1073741824 := by omega
    have hdd : 0 ≤ (x.n - y.n) * (x.n - y.n) ∧ (x.n - y.n) * (x.n - y.n) ≤ 1152921504606846976 := ⟨Int.mul_nonneg hd.1 hd.1, Int.le_trans (Int.mul_le_mul hd.2 hd.2 hd.1 (by omega)) (by decide)⟩
    have he : ordP x y = ordB x y := ordP_B hxy.1 hc hxy.2
    refine And.intro (by constructor <;> omega : -9223372036854775808 ≤ x.n - y.n ∧ x.n - y.n ≤ 9223372036854775807) ?_
    refine And.intro (by constructor <;> omega : -9223372036854775808 ≤ x.s - y.s ∧ x.s - y.s ≤ 9223372036854775807) ?_
    refine And.intro (by constructor <;> omega : -9223372036854775808 ≤ (x.n - y.n) * (x.n - y.n) ∧ (x.n - y.n) * (x.n - y.n) ≤ 9223372036854775807) ?_
    refine And.intro (by constructor <;> omega : -9223372036854775808 ≤ x.s - y.s - (x.n - y.n) * (x.n - y.n) ∧ x.s - y.s - (x.n - y.n) * (x.n - y.n) ≤ 9223372036854775807) ?_
    refine And.intro (fun hf => ?_) (fun hf => ?_)
    · have hf : x.s - y.s - (x.n - y.n) * (x.n - y.n) < 0 := of_decide_eq_true hf
      refine Eq.trans (a := ordP x y) (b := 1) ?_ rfl
      rw [he]; unfold ordB; rw [if_pos hf]
    · have hf : ¬ x.s - y.s - (x.n - y.n) * (x.n - y.n) < 0 := of_decide_eq_false hf
      have e4 : 4 * (x.n - y.n) * (x.n - y.n) = 4 * ((x.n - y.n) * (x.n - y.n)) := by grind
      refine And.intro (by constructor <;> omega : -9223372036854775808 ≤ 4 * (x.n - y.n) ∧ 4 * (x.n - y.n) ≤ 9223372036854775807) ?_
      refine And.intro (by constructor <;> omega : -9223372036854775808 ≤ 4 * (x.n - y.n) * (x.n - y.n) ∧ 4 * (x.n - y.n) * (x.n - y.n) ≤ 9223372036854775807) ?_
      have p1 : 0 ≤ 4 * (x.n - y.n) * (x.n - y.n) ∧ 4 * (x.n - y.n) * (x.n - y.n) ≤ 9223372036854775807 := by constructor <;> omega
      have p2 : 0 ≤ y.s ∧ y.s ≤ 9223372036854775807 := by omega
      have p3 : 0 ≤ x.s - y.s - (x.n - y.n) * (x.n - y.n) ∧ x.s - y.s - (x.n - y.n) * (x.n - y.n) ≤ 9223372036854775807 := by constructor <;> omega
      refine And.intro ⟨p1, p2⟩ ?_
      refine And.intro ⟨p3, p3⟩ ?_
      refine And.intro ⟨mulW_in p1 p2, mulW_in p3 p3⟩ ?_
      refine Eq.trans (a := ordP x y) (b := cmpI (mulW (4 * (x.n - y.n) * (x.n - y.n)) y.s).num (mulW (x.s - y.s - (x.n - y.n) * (x.n - y.n)) (x.s - y.s - (x.n - y.n) * (x.n - y.n))).num) ?_ rfl
      rw [he, mulW_num, mulW_num]; unfold ordB; rw [if_neg hf]
noncomputable def conOrd : Con cx := walkCon 66 Tryz.call66 (rds2 rdPlc rdPlc) (fun a => [a.1.In, a.2.In]) (fun a => .v (.int .i64 (ordP a.1 a.2))) (fun _ => noHow) [] (fun _ => rfl) follows Tryz.func66 (by kernel_rfl) Ord_walk
end Go.Proofs.YtjdohgcolhpegaaGreatDoor
namespace Go.Proofs.YtjdohgcolhpegaaGreatDoor
open Go.RowKit

/-- Do all of r numbers from the k-th on lie between? -/
def betN (lo hi : Int) (g : Nat → Int) : Nat → Nat → Bool
  | _, 0 => true
  | k, r + 1 => !(decide (g k < lo) || decide (hi < g k)) && betN lo hi g (k + 1) r
def betCut (lo hi : Int) (f : Fam) : Cut := ⟨Nat, fun k => k ≤ f.n ∧ betN lo hi f.g 0 f.n = betN lo hi f.g k (f.n - k),
  fun k => ⟨[sl 0 (.v (.int .i64 lo)), sl 1 (.v (.int .i64 hi)), sl 9 (.rs 1 f.n fun i => [.v (.int .i64 (f.g i))]), sl 10 (.v (.int .i64 f.n)), sl 11 (.v (.int .i64 k))], [], 0, 0, [], []⟩, fun k => f.n - k⟩
set_option maxHeartbeats 2000000 in
set_option maxRecDepth 8000 in
theorem Bet_walk : ∀ a, conj ((fun a => [(a.2.2.n : Int) ≤ 1000000]) a) → evFn (C := cx) [] [] 0 ⟨[], [], [2], 0⟩ Tryz.f117 (((rds3 (rdI .i64) (rdI .i64) (rdF .i64))).enc a) fun v H _ => resOut ((fun a => .v (.bool (betN a.1 a.2.1 a.2.2.g 0 a.2.2.n))) a) H v := by
  intro ⟨lo, hi, f⟩ hn
  replace hn : (f.n : Int) ≤ 1000000 := hn
  refine Exists.intro (betCut lo hi f) ?_
  refine And.intro ?_ ?_
  · refine ⟨(0 : Nat), [], [], trivial, ⟨Nat.zero_le _, rfl⟩, ?_⟩
    repeat' (first | (refine And.intro ?_ ?_) | (intro _) | exact rfl)
  refine fun (k : Nat) (hk : k ≤ f.n ∧ betN lo hi f.g 0 f.n = betN lo hi f.g k (f.n - k)) => ?_
  obtain ⟨h1, h2⟩ := hk
  refine And.intro (fun hb => ?_) (fun hb => ?_)
  · have hb : (k : Int) < f.n := of_decide_eq_true hb
    refine And.intro ⟨by omega, by omega⟩ ?_
    have e : betN lo hi f.g k (f.n - k) = (!(decide (f.g k < lo) || decide (hi < f.g k)) && betN lo hi f.g (k + 1) (f.n - (k + 1))) := by
      rw [show f.n - k = (f.n - (k + 1)) + 1 by omega]; rfl
    refine And.intro (fun hc => ?_) (fun hc => ?_)
    · have hc : (decide (f.g k < lo) || decide (hi < f.g k)) = true := hc
      refine Eq.trans (a := betN lo hi f.g 0 f.n) ?_ rfl
      rw [h2, e, hc]
      rfl
    · have hc : (decide (f.g k < lo) || decide (hi < f.g k)) = false := hc
      refine And.intro (by constructor <;> omega) ?_
      refine ⟨k + 1, [], [], (by show f.n - (k + 1) < f.n - k; omega), ⟨by omega, by rw [h2, e, hc]; rfl⟩, ?_⟩
      repeat' (first | (refine And.intro ?_ ?_) | (intro _) | exact rfl)
  · have hb : ¬ (k : Int) < f.n := of_decide_eq_false hb
    refine Eq.trans (a := betN lo hi f.g 0 f.n) ?_ rfl
    rw [h2, show f.n - k = 0 by omega]
    rfl
noncomputable def conBet : Con cx := walkCon 117 Tryz.call117 (rds3 (rdI .i64) (rdI .i64) (rdF .i64)) (fun a => [(a.2.2.n : Int) ≤ 1000000]) (fun a => .v (.bool (betN a.1 a.2.1 a.2.2.g 0 a.2.2.n))) (fun _ => ⟨[], [], [2], 0⟩) [] (fun _ => rfl) follows Tryz.func117 (by kernel_rfl) Bet_walk

def okI (lo hi x : Int) : Bool := !(decide (x < lo) || decide (hi < x)) && true
def okI2 (lo hi x y : Int) : Bool := !(decide (x < lo) || decide (hi < x)) && okI lo hi y
def Body.bad1 (b : Body) : Bool := !okI 0 65536 b.iD || !okI2 (-1048576) 1048576 b.posX b.posY || !okI2 (-4096) 4096 b.velX b.velY || !okI2 1 16384 b.w b.h
def Body.ok (b : Body) : Bool := match b.bad1 with
  | true => false
  | false => (!b.round || decide (b.w = b.h)) && (!b.fixed || (decide (b.velX = 0) && decide (b.velY = 0)))
theorem one_al {p : Nat → Prop} (h : p 0) : ∀ i, i < 1 → p i := fun i hi => by
  obtain rfl : i = 0 := Nat.lt_one_iff.1 hi
  exact h
theorem two_al {p : Nat → Prop} (h : p 0) (k : p 1) : ∀ i, i < 2 → p i := fun i hi => by
  match i, hi with
  | 0, _ => exact h
  | 1, _ => exact k
set_option maxHeartbeats 2000000 in
set_option maxRecDepth 8000 in
theorem Valid_walk : ∀ a, conj ((fun _ => []) a) → evFn (C := cx) [conBet] [] 0 ⟨[1001], [], [], 0⟩ Tryz.f91 (((rds1 rdBody)).enc a) fun v H _ => resOut ((fun b => .v (.bool b.ok)) a) H v := by
  intro b _
  have one : ((1 : Nat) : Int) ≤ 1000000 := by decide
  have two : ((2 : Nat) : Int) ≤ 1000000 := by decide
  refine And.intro ⟨one_al trivial, one⟩ ?_
  refine And.intro (fun h1 => ?_) (fun h1 => ?_)
  rotate_left
  · have h1 : (!okI 0 65536 b.iD) = true := h1
    refine Eq.trans (a := b.ok) ?_ rfl
    unfold Body.ok Body.bad1; rw [h1]; rfl
  have h1 : (!okI 0 65536 b.iD) = false := h1
  refine And.intro ⟨two_al trivial trivial, two⟩ ?_
  refine And.intro (fun h2 => ?_) (fun h2 => ?_)
  rotate_left
  · have h2 : (!okI2 (-1048576) 1048576 b.posX b.posY) = true := h2
    refine Eq.trans (a := b.ok) ?_ rfl
    unfold Body.ok Body.bad1; rw [h1, h2]; rfl
  have h2 : (!okI2 (-1048576) 1048576 b.posX b.posY) = false := h2
  refine And.intro ⟨two_al trivial trivial, two⟩ ?_
  refine And.intro (fun h3 => ?_) (fun h3 => ?_)
  rotate_left
  · have h3 : (!okI2 (-4096) 4096 b.velX b.velY) = true := h3
    refine Eq.trans (a := b.ok) ?_ rfl
    unfold Body.ok Body.bad1; rw [h1, h2, h3]; rfl
  have h3 : (!okI2 (-4096) 4096 b.velX b.velY) = false := h3
  refine And.intro ⟨two_al trivial trivial, two⟩ ?_
  refine And.intro (fun h4 => ?_) (fun h4 => ?_)
  · have h4 : (!okI2 1 16384 b.w b.h) = true := h4
    refine Eq.trans (a := b.ok) ?_ rfl
    unfold Body.ok Body.bad1; rw [h1, h2, h3, h4]; rfl
  have h4 : (!okI2 1 16384 b.w b.h) = false := h4
  refine Eq.trans (a := b.ok) (b := (!b.round || decide (b.w = b.h)) && (!b.fixed || (decide (b.velX = 0) && decide (b.velY = 0)))) ?_ rfl
  unfold Body.ok Body.bad1; rw [h1, h2, h3, h4]; rfl
noncomputable def conValid : Con cx := walkCon 91 Tryz.call91 (rds1 rdBody) (fun _ => []) (fun b => .v (.bool b.ok)) (fun _ => ⟨[1001], [], [], 0⟩) [1001] (fun _ => rfl) follows Tryz.func91 (by kernel_rfl) Valid_walk
end Go.Proofs.YtjdohgcolhpegaaGreatDoor
namespace Go.Proofs.YtjdohgcolhpegaaGreatDoor
open Go.RowKit

theorem sq_bd {x a : Int} (h : -a ≤ x ∧ x ≤ a) : 0 ≤ x * x ∧ x * x ≤ a * a := by
  refine ⟨sq_nn x, ?_⟩
  rcases Int.le_total 0 x with k | k
  · exact sq_le k h.2
  · have := sq_le (x := -x) (by omega) (by omega : -x ≤ a)
    rw [Int.neg_mul_neg] at this
    exact this
structure Body.Ok (b : Body) : Prop where
  id : 0 ≤ b.iD ∧ b.iD ≤ 65536
  x : -1048576 ≤ b.posX ∧ b.posX ≤ 1048576
  y : -1048576 ≤ b.posY ∧ b.posY ≤ 1048576
  w : 1 ≤ b.w ∧ b.w ≤ 16384
  h : 1 ≤ b.h ∧ b.h ≤ 16384
  r : b.round = true → b.w = b.h
theorem Body.Ok.of {b : Body} (h : b.ok = true) : b.Ok := by
  unfold Body.ok at h
  split at h
  · cases h
  · rename_i hb
    unfold Body.bad1 at hb
    simp only [Bool.or_eq_false_iff, Bool.not_eq_false', okI, okI2, Bool.and_eq_true, Bool.not_eq_true', decide_eq_false_iff_not, and_true] at hb
    obtain ⟨⟨⟨h1, h2⟩, h3⟩, h4⟩ := hb
    simp only [Bool.and_eq_true, Bool.or_eq_true, Bool.not_eq_true', decide_eq_true_eq] at h
    refine ⟨by omega, by omega, by omega, by omega, by omega, fun hr => ?_⟩
    rcases h.1 with h | h
    · rw [hr] at h; cases h
    · exact h
theorem Body.ok_of {b : Body} (h : b.Ok) (hv : b.velX = 0 ∧ b.velY = 0) : b.ok = true := by
  have h1 := h.id
  have h2 := h.x
  have h3 := h.y
  have h4 := h.w
  have h5 := h.h
  unfold Body.ok
  have hb : b.bad1 = false := by
    unfold Body.bad1
    simp only [Bool.or_eq_false_iff, Bool.not_eq_false', okI, okI2, Bool.and_eq_true, Bool.not_eq_true', decide_eq_false_iff_not, and_true]
    omega
  rw [hb]
  simp only [hv.1, hv.2, decide_true, Bool.and_self, Bool.or_true, Bool.and_true]
  cases hr : b.round with
  | false => rfl
  | true => simp [h.r hr]
def Body.low (b : Body) : Vec := match b.ok with | true => ⟨b.posX - b.w, b.posY - b.h⟩ | false => ⟨0, 0⟩
def Body.high (b : Body) : Vec := match b.ok with | true => ⟨b.posX + b.w, b.posY + b.h⟩ | false => ⟨0, 0⟩
set_option maxHeartbeats 2000000 in
set_option maxRecDepth 8000 in
theorem Bounds_walk : ∀ a, conj ((fun _ => []) a) → evFn (C := cx) [conValid] [] 0 ⟨[3], [], [], 0⟩ Tryz.f93 (((rds1 rdBody)).enc a) fun v H _ => resOut ((fun b => .tup [b.low.sv, b.high.sv]) a) H v := by
  intro b _
  refine And.intro (fun hb => ?_) (fun hb => ?_)
  · have hb : b.ok = false := by
      have hb : (!b.ok) = true := hb
      simpa using hb
    have e1 : b.low = ⟨0, 0⟩ := by unfold Body.low; rw [hb]
    have e2 : b.high = ⟨0, 0⟩ := by unfold Body.high; rw [hb]
    simp only [e1, e2]
    repeat' (first | (refine And.intro ?_ ?_) | (intro _) | exact rfl)
  · have hb : b.ok = true := by
      have hb : (!b.ok) = false := hb
      simpa using hb
    have e1 : b.low = ⟨b.posX - b.w, b.posY - b.h⟩ := by unfold Body.low; rw [hb]
    have e2 : b.high = ⟨b.posX + b.w, b.posY + b.h⟩ := by unfold Body.high; rw [hb]
    simp only [e1, e2]
    obtain ⟨-, h1, h2, h3, h4, -⟩ := Body.Ok.of hb
    refine And.intro (by unfold I64; omega : I64 (b.posX - b.w)) ?_
    refine And.intro (by unfold I64; omega : I64 (b.posY - b.h)) ?_
    refine And.intro (by unfold I64; omega : I64 (b.posX + b.w)) ?_
    refine And.intro (by unfold I64; omega : I64 (b.posY + b.h)) ?_
    repeat' (first | (refine And.intro ?_ ?_) | (intro _) | exact rfl)
noncomputable def conBounds : Con cx := walkCon 93 Tryz.call93 (rds1 rdBody) (fun _ => []) (fun b => .tup [b.low.sv, b.high.sv]) (fun _ => ⟨[3], [], [], 0⟩) [3] (fun _ => rfl) follows Tryz.func93 (by kernel_rfl) Bounds_walk

def Vec.inB (p : Vec) : Bool := decide (max p.x p.y ≤ 2097152) && decide (-2097152 ≤ min p.x p.y)
structure Vec.In (p : Vec) : Prop where
  x : -2097152 ≤ p.x ∧ p.x ≤ 2097152
  y : -2097152 ≤ p.y ∧ p.y ≤ 2097152
theorem Vec.In.of {p : Vec} (h : p.inB = true) : p.In := by
  unfold Vec.inB at h
  simp only [Bool.and_eq_true, decide_eq_true_eq] at h
  constructor <;> omega
theorem Vec.inB_of {p : Vec} (h : p.In) : p.inB = true := by
  have h1 := h.x
  have h2 := h.y
  unfold Vec.inB
  simp only [Bool.and_eq_true, decide_eq_true_eq]
  omega
set_option maxHeartbeats 2000000 in
set_option maxRecDepth 8000 in
theorem Inside_walk : ∀ a, conj ((fun _ => []) a) → evFn (C := cx) [] [] 0 noHow Tryz.f89 (((rds1 rdVec)).enc a) fun v H _ => resOut ((fun p => .v (.bool p.inB)) a) H v := by
  intro p _
  exact rfl
noncomputable def conInside : Con cx := walkCon 89 Tryz.call89 (rds1 rdVec) (fun _ => []) (fun p => .v (.bool p.inB)) (fun _ => noHow) [] (fun _ => rfl) follows Tryz.func89 (by kernel_rfl) Inside_walk
set_option maxHeartbeats 2000000 in
set_option maxRecDepth 8000 in
theorem Abs_walk : ∀ a, conj ((fun n => [-9223372036854775807 ≤ n ∧ n ≤ 9223372036854775807]) a) → evFn (C := cx) [] [] 0 noHow Tryz.f118 (((rds1 (rdI .i64))).enc a) fun v H _ => resOut ((fun n => .v (.int .i64 (max n (-n)))) a) H v := by
  intro n hn
  replace hn : -9223372036854775807 ≤ n ∧ n ≤ 9223372036854775807 := hn
  refine And.intro (by unfold I64; omega : I64 (-n)) ?_
  exact rfl
noncomputable def conAbs : Con cx := walkCon 118 Tryz.call118 (rds1 (rdI .i64)) (fun n => [-9223372036854775807 ≤ n ∧ n ≤ 9223372036854775807]) (fun n => .v (.int .i64 (max n (-n)))) (fun _ => noHow) [] (fun _ => rfl) follows Tryz.func118 (by kernel_rfl) Abs_walk

def shortB (p q : Vec) : Bool := decide (max (max (q.x - p.x) (-(q.x - p.x))) (max (q.y - p.y) (-(q.y - p.y))) ≤ 8192)
set_option maxHeartbeats 2000000 in
set_option maxRecDepth 8000 in
theorem Short_walk : ∀ a, conj ((fun a => [a.1.In, a.2.In]) a) → evFn (C := cx) [conAbs] [] 0 noHow Tryz.f92 (((rds2 rdVec rdVec)).enc a) fun v H _ => resOut ((fun a => .v (.bool (shortB a.1 a.2))) a) H v := by
  intro ⟨p, q⟩ ⟨hp, hq⟩
  obtain ⟨p1, p2⟩ : p.In := hp
  obtain ⟨q1, q2⟩ : q.In := hq
  refine And.intro (by unfold I64; omega : I64 (q.x - p.x)) ?_
  refine And.intro (by omega : -9223372036854775807 ≤ q.x - p.x ∧ q.x - p.x ≤ 9223372036854775807) ?_
  refine And.intro (by unfold I64; omega : I64 (q.y - p.y)) ?_
  refine And.intro (by omega : -9223372036854775807 ≤ q.y - p.y ∧ q.y - p.y ≤ 9223372036854775807) ?_
  exact rfl
noncomputable def conShort : Con cx := walkCon 92 Tryz.call92 (rds2 rdVec rdVec) (fun a => [a.1.In, a.2.In]) (fun a => .v (.bool (shortB a.1 a.2))) (fun _ => noHow) [] (fun _ => rfl) follows Tryz.func92 (by kernel_rfl) Short_walk
/-- Has a body a point? -/
def Body.hasB (b : Body) (p : Vec) : Bool := match !b.ok with
  | true => false
  | false => match !okI b.low.x b.high.x p.x with
    | true => false
    | false => match !okI b.low.y b.high.y p.y with
      | true => false
      | false => !b.round || decide ((p.x - b.posX) * (p.x - b.posX) + (p.y - b.posY) * (p.y - b.posY) ≤ b.w * b.w)
theorem okI_rng {lo hi x : Int} (h : (!okI lo hi x) = false) : lo ≤ x ∧ x ≤ hi := by
  simp only [okI, Bool.not_eq_false', Bool.and_true, Bool.not_eq_true', Bool.or_eq_false_iff, decide_eq_false_iff_not] at h
  omega
end Go.Proofs.YtjdohgcolhpegaaGreatDoor
