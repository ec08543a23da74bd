/- Wide numbers: products, quotients. -/
import Derived.Test.YtjdohgcolhpegaaGreatDoorM3
namespace Go.Proofs.YtjdohgcolhpegaaGreatDoor.Df
open Go.RowKit

theorem orS {a b : Int} (ha : u64 a) (hb : 0 ≤ b) (hb' : b < 2) : bitsI .or .u64 (a * 2 % 18446744073709551616) b = a % 9223372036854775808 * 2 + b := by
  unfold u64 at ha
  rw [show a * 2 % 18446744073709551616 = a % 9223372036854775808 * 2 by omega, or1 (by omega) hb hb' (by omega)]
theorem orS1 {a : Int} (ha : u64 a) : bitsI .or .u64 (a * 2 % 18446744073709551616) 1 = a % 9223372036854775808 * 2 + 1 := orS ha (by omega) (by omega)
def Sz.val (s : Sz) : Int := s.hi * 18446744073709551616 + s.lo
def divP (v : Int) (d : Int) (x : Nat × Sz × Sz × Int) : Prop := x.1 ≤ 128 ∧ x.2.1.In ∧ x.2.2.1.In ∧ 0 ≤ x.2.2.2 ∧ x.2.2.2 < d ∧ v * 2 ^ x.1 = (x.2.2.1.val * d + x.2.2.2) * 340282366920938463463374607431768211456 + x.2.1.val ∧ x.2.2.1.val * d + x.2.2.2 < 2 ^ x.1
def divCut (v : Int) (d : Int) : Cut := ⟨Nat × Sz × Sz × Int, divP v d, fun x => ⟨[sl 1 (.v (.int .u64 d)), sl 2 (.p 0 0), sl 4 (.p 1 0), sl 6 (.p 2 0), sl 7 (.v (.int .u64 x.2.2.2)), sl 9 (.v (.int .i64 x.1))],
  [(0, .lay x.2.1.cells 169), (1, .lay [.il .u64 0, .il .u64 0] 169), (2, .lay x.2.2.1.cells 169)], 3, 0, [], []⟩, fun x => 128 - x.1⟩
/-- One round. -/
theorem div_round {v d : Int} {k : Nat} {s o : Sz} {r : Int} (hd : 1 ≤ d) (hd' : d < 18446744073709551616) (hk : k < 128) (h : divP v d (k, s, o, r)) {s' o' : Sz} {r' c : Int}
    (hs1 : s'.hi = s.hi % 9223372036854775808 * 2 + s.lo / 9223372036854775808) (hs2 : s'.lo = s.lo * 2 % 18446744073709551616)
    (ho1 : o'.hi = o.hi % 9223372036854775808 * 2 + o.lo / 9223372036854775808) (ho2 : o'.lo = o.lo % 9223372036854775808 * 2 + c)
    (hc : c = 0 ∨ c = 1) (hr : r' = 2 * r + s.hi / 9223372036854775808 - c * d) (hr0 : 0 ≤ r') (hr1 : r' < d) : divP v d (k + 1, s', o', r') := by
  obtain ⟨-, ⟨⟨a1, a2⟩, a3, a4⟩, ⟨⟨b1, b2⟩, b3, b4⟩, r0, r1, e, lt⟩ := h
  simp only at a1 a2 a3 a4 b1 b2 b3 b4 r0 r1 e lt
  have hp : (2 : Int) ^ (k + 1) = 2 * 2 ^ k := by rw [Int.pow_succ, Int.mul_comm]
  have hO : o.val ≤ o.val * d := by
    have := Int.mul_le_mul_of_nonneg_left hd (show 0 ≤ o.val by unfold Sz.val; omega)
    omega
  have hk2 : (2 : Int) ^ k ≤ 170141183460469231731687303715884105728 := by
    have h1 : 2 ^ k ≤ 2 ^ 127 := Nat.pow_le_pow_right (n := 2) (by omega) (by omega)
    have h2 := Int.ofNat_le.2 h1
    rw [Int.natCast_pow] at h2
    exact h2
  have ho : o'.val = 2 * o.val + c := by
    unfold Sz.val at hO ⊢
    rw [ho1, ho2]
    unfold Sz.val at lt
    omega
  have hod : o'.val * d = 2 * (o.val * d) + c * d := by rw [ho, Int.add_mul, Int.mul_assoc]
  have hs : s'.val = 2 * s.val - s.hi / 9223372036854775808 * 340282366920938463463374607431768211456 := by
    unfold Sz.val
    rw [hs1, hs2]
    omega
  refine ⟨show k + 1 ≤ 128 by omega, ⟨⟨?_, ?_⟩, ?_, ?_⟩, ⟨⟨?_, ?_⟩, ?_, ?_⟩, hr0, hr1, ?_, ?_⟩
  · show 0 ≤ s'.hi; omega
  · show s'.hi < _; omega
  · show 0 ≤ s'.lo; omega
  · show s'.lo < _; omega
  · show 0 ≤ o'.hi; omega
  · show o'.hi < _; omega
  · show 0 ≤ o'.lo; omega
  · show o'.lo < _; omega
  · show v * 2 ^ (k + 1) = (o'.val * d + r') * 340282366920938463463374607431768211456 + s'.val
    rw [hp, hs, hod, hr, Int.mul_left_comm, e]
    generalize o.val * d = X
    generalize c * d = Y
    omega
  · show o'.val * d + r' < 2 ^ (k + 1)
    rw [hp, hod, hr]
    generalize o.val * d = X at *
    generalize c * d = Y
    omega
theorem div_end {v d : Int} {s o : Sz} {r : Int} (hd : 1 ≤ d) (h : divP v d (128, s, o, r)) : v / d = o.val ∧ v % d = r := by
  obtain ⟨-, ⟨⟨a1, a2⟩, a3, a4⟩, ⟨⟨b1, b2⟩, b3, b4⟩, r0, r1, e, lt⟩ := h
  simp only at a1 a2 a3 a4 b1 b2 b3 b4 r0 r1 e lt
  have hv : v = r + o.val * d := by
    have : v * 340282366920938463463374607431768211456 = (o.val * d + r) * 340282366920938463463374607431768211456 + s.val := e
    unfold Sz.val at this ⊢
    generalize (o.hi * 18446744073709551616 + o.lo) * d = X at *
    omega
  constructor
  · rw [hv, Int.add_mul_ediv_right _ _ (by omega), Int.ediv_eq_zero_of_lt r0 r1, Int.zero_add]
  · rw [hv, Int.add_mul_emod_self_right, Int.emod_eq_of_lt r0 r1]
set_option maxHeartbeats 2000000 in
set_option maxRecDepth 8000 in
theorem Mul_walk : ∀ a, conj ((fun a => [u64 a.1.lo, 0 ≤ a.2.lo ∧ a.2.lo < 4294967296]) a) → evFn (C := cx) [conMade, conTimes] [] 0 noHow Tryz.f111 ((rds2 rdW rdW).enc a) fun v H _ => resOut ((fun a => (wMul a.1 a.2).sv) a) H v := by
  intro ⟨x, y⟩ ⟨hn, hm⟩
  repeat' (first | (refine And.intro ?_ ?_) | (intro _))
  all_goals (try (refine Eq.trans ?_ rfl))
  all_goals (try simp only [rds1, rds2, rds3, rdSz, rdW, rdB, rdI, Sz.of, W.of, hdS, tlS, SV.al, SV.iv, SV.bv, constSV, decide_eq_true_eq, decide_eq_false_iff_not] at *)
  all_goals first | rfl | exact hn.1 | exact hn.2 | exact hm.1 | exact hm.2 | trace_state
noncomputable def conMul : Con cx := walkCon 111 Tryz.call111 (rds2 rdW rdW) (fun a => [u64 a.1.lo, 0 ≤ a.2.lo ∧ a.2.lo < 4294967296]) (fun a => (wMul a.1 a.2).sv) (fun _ => noHow) [] (fun _ => rfl) follows Tryz.func111 (by kernel_rfl) Mul_walk

set_option maxHeartbeats 2000000 in
set_option maxRecDepth 8000 in
theorem Divide_walk : ∀ a, conj ((fun a => [a.1.In, 1 ≤ a.2 ∧ a.2 < 18446744073709551616]) a) → evFn (C := cx) [] [] 0 ⟨[], [], [4], 0⟩ Tryz.f125 ((rds2 rdSz (rdI .u64)).enc a) fun v H _ => resOut ((fun a => .tup [(szDiv a.1 a.2).sv, .v (.int .u64 (szRem a.1 a.2))]) a) H v := by
  intro ⟨x, d⟩ ⟨hn, hm⟩
  replace hn : x.In := hn
  obtain ⟨hd, hd'⟩ : 1 ≤ d ∧ d < 18446744073709551616 := hm
  refine Exists.intro (divCut x.val d) ?_
  refine And.intro ?_ ?_
  · refine ⟨((0 : Nat), x, ⟨0, 0⟩, (0 : Int)), [], [], trivial, ?_, ?_⟩
    · refine ⟨Nat.zero_le _, hn, ⟨⟨Int.le_refl 0, by show (0 : Int) < _; decide⟩, Int.le_refl 0, by show (0 : Int) < _; decide⟩, Int.le_refl 0, by show 0 < d; omega, ?_, ?_⟩
      · show x.val * 1 = ((0 * 18446744073709551616 + 0) * d + 0) * _ + x.val
        omega
      · show (0 * 18446744073709551616 + 0) * d + 0 < (1 : Int)
        omega
    · repeat' (first | (refine And.intro ?_ ?_) | (intro _) | exact rfl)
  refine fun (y : Nat × Sz × Sz × Int) (hy : divP x.val d y) => ?_
  obtain ⟨k, s, o, r⟩ := y
  have hk128 := hy.1
  simp only at hk128
  refine And.intro (fun hb => ?_) (fun hb => ?_)
  · have hk : k < 128 := by simp only [decide_eq_true_eq] at hb; omega
    have hs := hy.2.1
    have ho := hy.2.2.1
    have hr0 := hy.2.2.2.1
    have hr1 := hy.2.2.2.2.1
    simp only at hs ho hr0 hr1
    obtain ⟨hs1, hs2⟩ := hs
    obtain ⟨ho1, ho2⟩ := ho
    have hr : u64 r := ⟨hr0, by omega⟩
    have hb0 : 0 ≤ s.hi / 9223372036854775808 ∧ s.hi / 9223372036854775808 < 2 := by unfold u64 at hs1; omega
    have hb1 : 0 ≤ s.lo / 9223372036854775808 ∧ s.lo / 9223372036854775808 < 2 := by unfold u64 at hs2; omega
    have hb2 : 0 ≤ o.lo / 9223372036854775808 ∧ o.lo / 9223372036854775808 < 2 := by unfold u64 at ho2; omega
    have q1 := orS hr hb0.1 hb0.2
    have q2 := orS hs1 hb1.1 hb1.2
    have q3 := orS ho1 hb2.1 hb2.2
    have q4 := orS1 ho2
    unfold u64 at hr hs1 hs2 ho1 ho2
    refine And.intro (fun hc => ?_) (fun hc => ?_)
    · simp only [wu, p1, p63, fd63, q1, Bool.or_eq_true, decide_eq_true_eq] at hc
      refine And.intro ?_ ?_
      · constructor <;> simp only <;> omega
      refine Exists.intro (k + 1, ⟨s.hi % 9223372036854775808 * 2 + s.lo / 9223372036854775808, s.lo * 2 % 18446744073709551616⟩, ⟨o.hi % 9223372036854775808 * 2 + o.lo / 9223372036854775808, o.lo % 9223372036854775808 * 2 + 1⟩, 2 * r + s.hi / 9223372036854775808 - d) ?_
      refine Exists.intro [] ?_
      refine Exists.intro [] ?_
      refine And.intro ?_ (And.intro ?_ ?_)
      · show 128 - (k + 1) < 128 - k
        omega
      · exact div_round hd hd' hk hy rfl rfl rfl rfl (Or.inr rfl) (by omega) (by omega) (by omega)
      · repeat' (first | (refine And.intro ?_ ?_) | (intro _) | exact rfl)
        all_goals (try (refine Eq.trans ?_ rfl))
        all_goals simp only [wu, p1, p63, fd63, q1, q2, q3, q4]
        all_goals omega
    · simp only [wu, p1, p63, fd63, q1, Bool.or_eq_false_iff, decide_eq_false_iff_not] at hc
      refine And.intro ?_ ?_
      · constructor <;> simp only <;> omega
      refine Exists.intro (k + 1, ⟨s.hi % 9223372036854775808 * 2 + s.lo / 9223372036854775808, s.lo * 2 % 18446744073709551616⟩, ⟨o.hi % 9223372036854775808 * 2 + o.lo / 9223372036854775808, o.lo % 9223372036854775808 * 2 + 0⟩, 2 * r + s.hi / 9223372036854775808 - 0 * d) ?_
      refine Exists.intro [] ?_
      refine Exists.intro [] ?_
      refine And.intro ?_ (And.intro ?_ ?_)
      · show 128 - (k + 1) < 128 - k
        omega
      · exact div_round hd hd' hk hy rfl rfl rfl rfl (Or.inl rfl) rfl (by omega) (by omega)
      · repeat' (first | (refine And.intro ?_ ?_) | (intro _) | exact rfl)
        all_goals (try (refine Eq.trans ?_ rfl))
        all_goals simp only [wu, p1, p63, fd63, q1, q2, q3]
        all_goals omega
  · obtain rfl : k = 128 := by simp only [decide_eq_false_iff_not] at hb; omega
    obtain ⟨e1, e2⟩ := div_end hd hy
    have ho := hy.2.2.1
    simp only [Sz.In, u64] at ho
    unfold Sz.val at e1 e2
    repeat' (first | (refine And.intro ?_ ?_) | (intro _))
    all_goals (try (refine Eq.trans ?_ rfl))
    all_goals simp only [szDiv, szRem, e1, e2]
    all_goals omega
noncomputable def conDivide : Con cx := walkCon 125 Tryz.call125 (rds2 rdSz (rdI .u64)) (fun a => [a.1.In, 1 ≤ a.2 ∧ a.2 < 18446744073709551616]) (fun a => .tup [(szDiv a.1 a.2).sv, .v (.int .u64 (szRem a.1 a.2))]) (fun _ => ⟨[], [], [4], 0⟩) [] (fun _ => rfl) follows Tryz.func125 (by kernel_rfl) Divide_walk
end Go.Proofs.YtjdohgcolhpegaaGreatDoor.Df
