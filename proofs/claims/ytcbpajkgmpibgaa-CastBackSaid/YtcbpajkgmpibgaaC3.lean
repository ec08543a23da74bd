/- The contract of order. -/
import Derived.Test.YtcbpajkgmpibgaaC2
namespace Go.Proofs.Ytcbpajkgmpibgaa
open Go.RowKit

structure Plc.In (p : Plc) : Prop where
  n : -536870912 ≤ p.n ∧ p.n ≤ 536870912
  s : 0 ≤ p.s ∧ p.s ≤ 288230376151711744
  m : 0 ≤ p.m ∧ p.m ≤ 134217728
theorem ordP_R {x y : Plc} (h : y.s = 0) (h2 : ¬ (x.s = 0 ∧ y.s = 0)) : ordP x y = if 0 ≤ x.n * y.m - y.n * x.m then cmpI ((x.n * y.m - y.n * x.m) * (x.n * y.m - y.n * x.m)) (y.m * y.m * x.s) else -1 := by
  unfold ordP; rw [if_neg h2, if_pos h]; rfl
theorem ordP_B {x y : Plc} (h1 : x.s ≠ 0) (h2 : ¬ y.s = 0) (h3 : ¬ x.n < y.n) : ordP x y = ordB x y := by
  unfold ordP; rw [if_neg (fun h => h1 h.1), if_neg h2, if_neg h1, if_neg h3]
theorem cmpI_rng (x y : Int) : -1 ≤ cmpI x y ∧ cmpI x y ≤ 1 := by unfold cmpI; split <;> (try split) <;> omega
theorem ordP_rng (x y : Plc) : -1 ≤ ordP x y ∧ ordP x y ≤ 1 := by
  unfold ordP ordR ordB
  repeat' split
  all_goals first | exact cmpI_rng _ _ | omega | (have := cmpI_rng ((y.n * x.m - x.n * y.m) * (y.n * x.m - x.n * y.m)) (x.m * x.m * y.s); omega) | skip
  have := cmpI_rng (4 * (y.n - x.n) * (y.n - x.n) * x.s) ((y.s - x.s - (y.n - x.n) * (y.n - x.n)) * (y.s - x.s - (y.n - x.n) * (y.n - x.n)))
  omega
theorem mul_rng {x y a b : Int} (hx : -a ≤ x ∧ x ≤ a) (hy : 0 ≤ y ∧ y ≤ b) : -(a * b) ≤ x * y ∧ x * y ≤ a * b := by
  have ha : 0 ≤ a := by omega
  have h1 := Int.mul_le_mul hx.2 hy.2 hy.1 ha
  have h2 := Int.mul_le_mul (a := -x) (by omega) hy.2 hy.1 ha
  rw [Int.neg_mul] at h2
  omega
set_option maxHeartbeats 2000000 in
set_option maxRecDepth 8000 in
theorem Ord1_walk : ∀ a, conj ((fun a => [a.1.In, a.2.In, a.2.s = 0 ∨ a.1.s ≠ 0 ∧ ¬ a.1.n < a.2.n]) a) → evFn (C := cx) [conCmp, conRoot, conMul, conWcmp] [] 0 noHow Try.f36 (((rds2 rdPlc rdPlc)).enc a) fun v H _ => resOut ((fun a => .v (.int .i64 (ordP a.1 a.2))) a) H v := by
  intro ⟨x, y⟩ ⟨hx, hy, hxy⟩
  replace hx : x.In := hx
  replace hy : y.In := hy
  replace hxy : y.s = 0 ∨ x.s ≠ 0 ∧ ¬ x.n < y.n := hxy
  have r1 := mul_rng hx.n hy.m
  have r2 := mul_rng hy.n hx.m
  have i1 : -9223372036854775808 ≤ x.n * y.m ∧ x.n * y.m ≤ 9223372036854775807 := by omega
  have i2 : -9223372036854775808 ≤ y.n * x.m ∧ y.n * x.m ≤ 9223372036854775807 := by omega
  have i3 : -9223372036854775808 ≤ x.n * y.m - y.n * x.m ∧ x.n * y.m - y.n * x.m ≤ 9223372036854775807 := by omega
  refine And.intro (fun hb => ?_) (fun hb => ?_)
  · have hb : (decide (x.s = 0) && decide (y.s = 0)) = true := hb
    simp only [Bool.and_eq_true, decide_eq_true_eq] at hb
    refine And.intro i1 ?_
    refine And.intro i2 ?_
    refine Eq.trans (a := ordP x y) (b := cmpI (x.n * y.m) (y.n * x.m)) ?_ rfl
    unfold ordP; rw [if_pos hb]
  have hb : (decide (x.s = 0) && decide (y.s = 0)) = false := hb
  have hz : ¬ (x.s = 0 ∧ y.s = 0) := by intro h; simp [h.1, h.2] at hb
  refine And.intro (fun hc => ?_) (fun hc => ?_)
  · have hc : y.s = 0 := of_decide_eq_true hc
    refine And.intro i1 ?_
    refine And.intro i2 ?_
    refine And.intro i3 ?_
    have hs1 := hx.s
    refine And.intro (fun hd => ?_) (fun hd => ?_)
    · have hd : 0 ≤ x.n * y.m - y.n * x.m := of_decide_eq_true hd
      have hm1 := hy.m
      refine And.intro ⟨⟨hd, by show x.n * y.m - y.n * x.m ≤ 1152921504606846976; omega⟩, ⟨hm1.1, by show y.m ≤ 268435456; omega⟩, ⟨hs1.1, by show x.s ≤ 1152921504606846976; omega⟩⟩ ?_
      refine Eq.trans (a := ordP x y) (b := cmpI ((x.n * y.m - y.n * x.m) * (x.n * y.m - y.n * x.m)) (y.m * y.m * x.s)) ?_ rfl
      rw [ordP_R hc hz, if_pos hd]
    · have hd : ¬ 0 ≤ x.n * y.m - y.n * x.m := of_decide_eq_false hd
      refine Eq.trans (a := ordP x y) (b := -1) ?_ rfl
      rw [ordP_R hc hz, if_neg hd]
  · have hc : ¬ y.s = 0 := of_decide_eq_false hc
    have hxy := hxy.resolve_left hc
    refine And.intro (fun hd => absurd (of_decide_eq_true hd) hxy.1) (fun _ => ?_)
    refine And.intro (fun hd => absurd (of_decide_eq_true hd) hxy.2) (fun _ => ?_)
    have hn := hxy.2
    have n1 := hx.n
    have n2 := hy.n
    have s1 := hx.s
    have s2 := hy.s
    have hd : 0 ≤ x.n - y.n ∧ x.n - y.n ≤ 1073741824 := by omega
    have hdd : 0 ≤ (x.n - y.n) * (x.n - y.n) ∧ (x.n - y.n) * (x.n - y.n) ≤ 1152921504606846976 := ⟨Int.mul_nonneg hd.1 hd.1, Int.le_trans (Int.mul_le_mul hd.2 hd.2 hd.1 (by omega)) (by decide)⟩
    have he : ordP x y = ordB x y := ordP_B hxy.1 hc hxy.2
    refine And.intro (by constructor <;> omega : -9223372036854775808 ≤ x.n - y.n ∧ x.n - y.n ≤ 9223372036854775807) ?_
    refine And.intro (by constructor <;> omega : -9223372036854775808 ≤ x.s - y.s ∧ x.s - y.s ≤ 9223372036854775807) ?_
    refine And.intro (by constructor <;> omega : -9223372036854775808 ≤ (x.n - y.n) * (x.n - y.n) ∧ (x.n - y.n) * (x.n - y.n) ≤ 9223372036854775807) ?_
    refine And.intro (by constructor <;> omega : -9223372036854775808 ≤ x.s - y.s - (x.n - y.n) * (x.n - y.n) ∧ x.s - y.s - (x.n - y.n) * (x.n - y.n) ≤ 9223372036854775807) ?_
    refine And.intro (fun hf => ?_) (fun hf => ?_)
    · have hf : x.s - y.s - (x.n - y.n) * (x.n - y.n) < 0 := of_decide_eq_true hf
      refine Eq.trans (a := ordP x y) (b := 1) ?_ rfl
      rw [he]; unfold ordB; rw [if_pos hf]
    · have hf : ¬ x.s - y.s - (x.n - y.n) * (x.n - y.n) < 0 := of_decide_eq_false hf
      have e4 : 4 * (x.n - y.n) * (x.n - y.n) = 4 * ((x.n - y.n) * (x.n - y.n)) := by grind
      refine And.intro (by constructor <;> omega : -9223372036854775808 ≤ 4 * (x.n - y.n) ∧ 4 * (x.n - y.n) ≤ 9223372036854775807) ?_
      refine And.intro (by constructor <;> omega : -9223372036854775808 ≤ 4 * (x.n - y.n) * (x.n - y.n) ∧ 4 * (x.n - y.n) * (x.n - y.n) ≤ 9223372036854775807) ?_
      have p1 : 0 ≤ 4 * (x.n - y.n) * (x.n - y.n) ∧ 4 * (x.n - y.n) * (x.n - y.n) ≤ 9223372036854775807 := by constructor <;> omega
      have p2 : 0 ≤ y.s ∧ y.s ≤ 9223372036854775807 := by omega
      have p3 : 0 ≤ x.s - y.s - (x.n - y.n) * (x.n - y.n) ∧ x.s - y.s - (x.n - y.n) * (x.n - y.n) ≤ 9223372036854775807 := by constructor <;> omega
      refine And.intro ⟨p1, p2⟩ ?_
      refine And.intro ⟨p3, p3⟩ ?_
      refine And.intro ⟨mulW_in p1 p2, mulW_in p3 p3⟩ ?_
      refine Eq.trans (a := ordP x y) (b := cmpI (mulW (4 * (x.n - y.n) * (x.n - y.n)) y.s).num (mulW (x.s - y.s - (x.n - y.n) * (x.n - y.n)) (x.s - y.s - (x.n - y.n) * (x.n - y.n))).num) ?_ rfl
      rw [he, mulW_num, mulW_num]; unfold ordB; rw [if_neg hf]
noncomputable def conOrd1 : Con cx := walkCon 36 Try.call36 (rds2 rdPlc rdPlc) (fun a => [a.1.In, a.2.In, a.2.s = 0 ∨ a.1.s ≠ 0 ∧ ¬ a.1.n < a.2.n]) (fun a => .v (.int .i64 (ordP a.1 a.2))) (fun _ => noHow) [] (fun _ => rfl) follows Try.func36 (by kernel_rfl) Ord1_walk
set_option maxHeartbeats 2000000 in
set_option maxRecDepth 8000 in
theorem Ord_walk : ∀ a, conj ((fun a => [a.1.In, a.2.In]) a) → evFn (C := cx) [conOrd1, conCmp, conRoot, conMul, conWcmp] [] 0 noHow Try.f36 (((rds2 rdPlc rdPlc)).enc a) fun v H _ => resOut ((fun a => .v (.int .i64 (ordP a.1 a.2))) a) H v := by
  intro ⟨x, y⟩ ⟨hx, hy⟩
  replace hx : x.In := hx
  replace hy : y.In := hy
  have r1 := mul_rng hx.n hy.m
  have r2 := mul_rng hy.n hx.m
  have i1 : -9223372036854775808 ≤ x.n * y.m ∧ x.n * y.m ≤ 9223372036854775807 := by omega
  have i2 : -9223372036854775808 ≤ y.n * x.m ∧ y.n * x.m ≤ 9223372036854775807 := by omega
  have i3 : -9223372036854775808 ≤ x.n * y.m - y.n * x.m ∧ x.n * y.m - y.n * x.m ≤ 9223372036854775807 := by omega
  refine And.intro (fun hb => ?_) (fun hb => ?_)
  · have hb : (decide (x.s = 0) && decide (y.s = 0)) = true := hb
    simp only [Bool.and_eq_true, decide_eq_true_eq] at hb
    refine And.intro i1 ?_
    refine And.intro i2 ?_
    refine Eq.trans (a := ordP x y) (b := cmpI (x.n * y.m) (y.n * x.m)) ?_ rfl
    unfold ordP; rw [if_pos hb]
  have hb : (decide (x.s = 0) && decide (y.s = 0)) = false := hb
  have hz : ¬ (x.s = 0 ∧ y.s = 0) := by intro h; simp [h.1, h.2] at hb
  refine And.intro (fun hc => ?_) (fun hc => ?_)
  · have hc : y.s = 0 := of_decide_eq_true hc
    refine And.intro i1 ?_
    refine And.intro i2 ?_
    refine And.intro i3 ?_
    have hs1 := hx.s
    refine And.intro (fun hd => ?_) (fun hd => ?_)
    · have hd : 0 ≤ x.n * y.m - y.n * x.m := of_decide_eq_true hd
      have hm1 := hy.m
      refine And.intro ⟨⟨hd, by show x.n * y.m - y.n * x.m ≤ 1152921504606846976; omega⟩, ⟨hm1.1, by show y.m ≤ 268435456; omega⟩, ⟨hs1.1, by show x.s ≤ 1152921504606846976; omega⟩⟩ ?_
      refine Eq.trans (a := ordP x y) (b := cmpI ((x.n * y.m - y.n * x.m) * (x.n * y.m - y.n * x.m)) (y.m * y.m * x.s)) ?_ rfl
      rw [ordP_R hc hz, if_pos hd]
    · have hd : ¬ 0 ≤ x.n * y.m - y.n * x.m := of_decide_eq_false hd
      refine Eq.trans (a := ordP x y) (b := -1) ?_ rfl
      rw [ordP_R hc hz, if_neg hd]
  · have hc : ¬ y.s = 0 := of_decide_eq_false hc
    have hg := ordP_rng y x
    have hng : -9223372036854775808 ≤ -ordP y x ∧ -ordP y x ≤ 9223372036854775807 := by omega
    refine And.intro (fun hd => ?_) (fun hd => ?_)
    · have hd : x.s = 0 := of_decide_eq_true hd
      refine And.intro ⟨hy, hx, .inl hd⟩ ?_
      refine And.intro hng ?_
      refine Eq.trans (a := ordP x y) (b := -ordP y x) (ordP_neg y x) rfl
    have hd : ¬ x.s = 0 := of_decide_eq_false hd
    refine And.intro (fun hf => ?_) (fun hf => ?_)
    · have hf : x.n < y.n := of_decide_eq_true hf
      refine And.intro ⟨hy, hx, .inr ⟨hc, (by omega : ¬ y.n < x.n)⟩⟩ ?_
      refine And.intro hng ?_
      refine Eq.trans (a := ordP x y) (b := -ordP y x) (ordP_neg y x) rfl
    have hf : ¬ x.n < y.n := of_decide_eq_false hf
    have hxy : x.s ≠ 0 ∧ ¬ x.n < y.n := ⟨hd, hf⟩
    have hn := hxy.2
    have n1 := hx.n
    have n2 := hy.n
    have s1 := hx.s
    have s2 := hy.s
    have hd : 0 ≤ x.n - y.n ∧ x.n - y.n ≤ 1073741824 := by omega
    have hdd : 0 ≤ (x.n - y.n) * (x.n - y.n) ∧ (x.n - y.n) * (x.n - y.n) ≤ 1152921504606846976 := ⟨Int.mul_nonneg hd.1 hd.1, Int.le_trans (Int.mul_le_mul hd.2 hd.2 hd.1 (by omega)) (by decide)⟩
    have he : ordP x y = ordB x y := ordP_B hxy.1 hc hxy.2
    refine And.intro (by constructor <;> omega : -9223372036854775808 ≤ x.n - y.n ∧ x.n - y.n ≤ 9223372036854775807) ?_
    refine And.intro (by constructor <;> omega : -9223372036854775808 ≤ x.s - y.s ∧ x.s - y.s ≤ 9223372036854775807) ?_
    refine And.intro (by constructor <;> omega : -9223372036854775808 ≤ (x.n - y.n) * (x.n - y.n) ∧ (x.n - y.n) * (x.n - y.n) ≤ 9223372036854775807) ?_
    refine And.intro (by constructor <;> omega : -9223372036854775808 ≤ x.s - y.s - (x.n - y.n) * (x.n - y.n) ∧ x.s - y.s - (x.n - y.n) * (x.n - y.n) ≤ 9223372036854775807) ?_
    refine And.intro (fun hf => ?_) (fun hf => ?_)
    · have hf : x.s - y.s - (x.n - y.n) * (x.n - y.n) < 0 := of_decide_eq_true hf
      refine Eq.trans (a := ordP x y) (b := 1) ?_ rfl
      rw [he]; unfold ordB; rw [if_pos hf]
    · have hf : ¬ x.s - y.s - (x.n - y.n) * (x.n - y.n) < 0 := of_decide_eq_false hf
      have e4 : 4 * (x.n - y.n) * (x.n - y.n) = 4 * ((x.n - y.n) * (x.n - y.n)) := by grind
      refine And.intro (by constructor <;> omega : -9223372036854775808 ≤ 4 * (x.n - y.n) ∧ 4 * (x.n - y.n) ≤ 9223372036854775807) ?_
      refine And.intro (by constructor <;> omega : -9223372036854775808 ≤ 4 * (x.n - y.n) * (x.n - y.n) ∧ 4 * (x.n - y.n) * (x.n - y.n) ≤ 9223372036854775807) ?_
      have p1 : 0 ≤ 4 * (x.n - y.n) * (x.n - y.n) ∧ 4 * (x.n - y.n) * (x.n - y.n) ≤ 9223372036854775807 := by constructor <;> omega
      have p2 : 0 ≤ y.s ∧ y.s ≤ 9223372036854775807 := by omega
      have p3 : 0 ≤ x.s - y.s - (x.n - y.n) * (x.n - y.n) ∧ x.s - y.s - (x.n - y.n) * (x.n - y.n) ≤ 9223372036854775807 := by constructor <;> omega
      refine And.intro ⟨p1, p2⟩ ?_
      refine And.intro ⟨p3, p3⟩ ?_
      refine And.intro ⟨mulW_in p1 p2, mulW_in p3 p3⟩ ?_
      refine Eq.trans (a := ordP x y) (b := cmpI (mulW (4 * (x.n - y.n) * (x.n - y.n)) y.s).num (mulW (x.s - y.s - (x.n - y.n) * (x.n - y.n)) (x.s - y.s - (x.n - y.n) * (x.n - y.n))).num) ?_ rfl
      rw [he, mulW_num, mulW_num]; unfold ordB; rw [if_neg hf]
noncomputable def conOrd : Con cx := walkCon 36 Try.call36 (rds2 rdPlc rdPlc) (fun a => [a.1.In, a.2.In]) (fun a => .v (.int .i64 (ordP a.1 a.2))) (fun _ => noHow) [] (fun _ => rfl) follows Try.func36 (by kernel_rfl) Ord_walk
end Go.Proofs.Ytcbpajkgmpibgaa
