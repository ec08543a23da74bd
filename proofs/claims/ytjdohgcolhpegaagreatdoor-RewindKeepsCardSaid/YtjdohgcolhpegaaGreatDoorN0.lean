/- Lerp: the number that lies n parts of d of the way from a to b. Worlds that share no memory: Clone, store.own, interp.own. store.Set of a component that is there; rewind.Hurt. interp: position, Between's closure. -/
import Derived.Test.YtjdohgcolhpegaaGreatDoorM12
import Derived.Test.YtjdohgcolhpegaaGreatDoorM14
namespace Go.Proofs.YtjdohgcolhpegaaGreatDoor.Df
open Go.RowKit

set_option maxHeartbeats 2000000 in
set_option maxRecDepth 8000 in
theorem TimesT_walk : ∀ a, conj ((fun a => [0 ≤ a.1 ∧ a.1 < 4294967296, u64 a.2]) a) → evFn (C := cx) [] [] 0 noHow Tryz.f128 ((rds2 (rdI .u64) (rdI .u64)).enc a) fun v H _ => resOut ((fun a => (szTimes a.1 a.2).sv) a) H v := by
  intro ⟨m, n⟩ ⟨hm, hn⟩
  obtain ⟨hm0, hm⟩ : 0 ≤ m ∧ m < 4294967296 := hm
  obtain ⟨hn0, hn⟩ : 0 ≤ n ∧ n < 18446744073709551616 := hn
  repeat' (first | (refine And.intro ?_ ?_) | (intro _))
  all_goals (try (refine Eq.trans ?_ rfl))
  all_goals (try simp only [rds1, rds2, rds3, rdSz, rdW, rdB, rdI, Sz.of, W.of, hdS, tlS, SV.al, SV.iv, SV.bv, constSV, decide_eq_true_eq, decide_eq_false_iff_not] at *)
  all_goals simp only [szTimes, wu, p32, fd32]
  all_goals
    have ha : 0 ≤ n / 4294967296 ∧ n / 4294967296 < 4294967296 := by omega
    have hb : 0 ≤ n % 4294967296 ∧ n % 4294967296 < 4294967296 := by omega
    have hm' : m % 4294967296 = m := by omega
    have hm2 : m / 4294967296 = 0 := by omega
    have hP0 : 0 ≤ m * (n % 4294967296) := Int.mul_nonneg hm0 hb.1
    have hQ0 : 0 ≤ m * (n / 4294967296) := Int.mul_nonneg hm0 ha.1
    have hP1 : m * (n % 4294967296) ≤ 4294967295 * 4294967295 := Int.mul_le_mul (by omega) (by omega) hb.1 (by omega)
    have hQ1 : m * (n / 4294967296) ≤ 4294967295 * 4294967295 := Int.mul_le_mul (by omega) (by omega) ha.1 (by omega)
    have hs : m * n = m * (n / 4294967296) * 4294967296 + m * (n % 4294967296) := by
      rw [Int.mul_assoc, ← Int.mul_add]
      congr 1
      omega
    rw [hs]
    simp only [and32 hn0 hn, and32 hm0 (show m < 18446744073709551616 by omega), hm', hm2, Int.zero_mul]
    generalize m * (n % 4294967296) = P at *
    generalize m * (n / 4294967296) = Q at *
    clear hs
    rw [show P % 18446744073709551616 = P by omega, show Q % 18446744073709551616 = Q by omega]
    rw [show ((0 : Int) % 18446744073709551616 + P / 4294967296) % 18446744073709551616 = P / 4294967296 by omega]
    rw [and32 (a := P / 4294967296) (by omega) (by omega)]
  · omega
  · rw [and32 (a := P) (by omega) (by omega), show (P / 4294967296 % 4294967296 + Q) % 18446744073709551616 * 4294967296 % 18446744073709551616 = (P / 4294967296 + Q) % 4294967296 * 4294967296 by omega, or32 (by omega) (by omega) (by omega) (by omega)]
    omega
noncomputable def conTimesT : Con cx := walkCon 128 Tryz.call128 (rds2 (rdI .u64) (rdI .u64)) (fun a => [0 ≤ a.1 ∧ a.1 < 4294967296, u64 a.2]) (fun a => (szTimes a.1 a.2).sv) (fun _ => noHow) [] (fun _ => rfl) follows Tryz.func128 (by kernel_rfl) TimesT_walk
set_option maxHeartbeats 2000000 in
set_option maxRecDepth 8000 in
theorem MulT_walk : ∀ a, conj ((fun a => [0 ≤ a.1.lo ∧ a.1.lo < 4294967296, u64 a.2.lo]) a) → evFn (C := cx) [conMade, conTimesT] [] 0 noHow Tryz.f111 ((rds2 rdW rdW).enc a) fun v H _ => resOut ((fun a => (wMul a.1 a.2).sv) a) H v := by
  intro ⟨x, y⟩ ⟨hn, hm⟩
  repeat' (first | (refine And.intro ?_ ?_) | (intro _))
  all_goals (try (refine Eq.trans ?_ rfl))
  all_goals (try simp only [rds1, rds2, rds3, rdSz, rdW, rdB, rdI, Sz.of, W.of, hdS, tlS, SV.al, SV.iv, SV.bv, constSV, decide_eq_true_eq, decide_eq_false_iff_not] at *)
  all_goals first | rfl | exact hn.1 | exact hn.2 | exact hm.1 | exact hm.2 | trace_state
noncomputable def conMulT : Con cx := walkCon 111 Tryz.call111 (rds2 rdW rdW) (fun a => [0 ≤ a.1.lo ∧ a.1.lo < 4294967296, u64 a.2.lo]) (fun a => (wMul a.1 a.2).sv) (fun _ => noHow) [] (fun _ => rfl) follows Tryz.func111 (by kernel_rfl) MulT_walk
/-- The quotient of magnitudes. -/
def W.quo (a b : W) : Int := (a.hi * 18446744073709551616 + a.lo) / b.lo
def W.rem (a b : W) : Int := (a.hi * 18446744073709551616 + a.lo) % b.lo
def wFloor (a b : W) : W × Int := match a.neg == b.neg || decide (a.rem b = 0) with
  | true => (wMade (szDiv ⟨a.hi, a.lo⟩ b.lo) (a.neg != b.neg), a.rem b)
  | false => (wMade ⟨0, a.quo b + 1⟩ true, b.lo - a.rem b)
set_option maxHeartbeats 2000000 in
set_option maxRecDepth 8000 in
theorem Floor_walk : ∀ a, conj ((fun a => [a.1.In, 1 ≤ a.2.lo ∧ a.2.lo < 18446744073709551616, a.1.quo a.2 < 4611686018427387904]) a) → evFn (C := cx) [conMade, conDivide, conPlusS] [] 0 ⟨[4], [], [], 0⟩ Tryz.f110 ((rds2 rdW rdW).enc a) fun v H _ => resOut ((fun a => .tup [(wFloor a.1 a.2).1.sv, .v (.int .u64 (wFloor a.1 a.2).2)]) a) H v := by
  intro ⟨x, y⟩ ⟨hn, hm, hq⟩
  obtain ⟨⟨a1, a2⟩, a3, a4⟩ : x.In := hn
  obtain ⟨m1, m2⟩ : 1 ≤ y.lo ∧ y.lo < 18446744073709551616 := hm
  replace hq : x.quo y < 4611686018427387904 := hq
  have hq0 : 0 ≤ x.quo y := Int.ediv_nonneg (by omega) (by omega)
  have hr0 : 0 ≤ x.rem y := Int.emod_nonneg _ (by omega)
  have hr1 : x.rem y < y.lo := Int.emod_lt_of_pos _ (by omega)
  refine And.intro ⟨⟨⟨a1, a2⟩, a3, a4⟩, m1, m2⟩ ?_
  refine And.intro (fun hb => ?_) (fun hb => ?_)
  · have hb : (x.neg == y.neg || decide (x.rem y = 0)) = true := hb
    have e : wFloor x y = (wMade (szDiv ⟨x.hi, x.lo⟩ y.lo) (x.neg != y.neg), x.rem y) := by unfold wFloor; rw [hb]
    simp only [e]
    repeat' (first | (refine And.intro ?_ ?_) | (intro _) | exact rfl)
  · have hb : (x.neg == y.neg || decide (x.rem y = 0)) = false := hb
    have e : wFloor x y = (wMade ⟨0, x.quo y + 1⟩ true, y.lo - x.rem y) := by unfold wFloor; rw [hb]
    simp only [e]
    have ql : (szDiv ⟨x.hi, x.lo⟩ y.lo).lo = x.quo y := by show x.quo y % 18446744073709551616 = x.quo y; omega
    have qh : (szDiv ⟨x.hi, x.lo⟩ y.lo).hi = 0 := by show x.quo y / 18446744073709551616 = 0; omega
    have qS : Sz.Sm (szDiv ⟨x.hi, x.lo⟩ y.lo) := ⟨qh, by rw [ql]; omega, by rw [ql]; omega⟩
    have oS : Sz.Sm ⟨0, 1⟩ := ⟨rfl, (by show (0 : Int) ≤ 1; decide), (by show (1 : Int) < 9223372036854775808; decide)⟩
    have e2 : wMade ⟨0, x.quo y + 1⟩ true = wMade ⟨0, (szDiv ⟨x.hi, x.lo⟩ y.lo).lo + 1⟩ true := by rw [ql]
    refine And.intro ⟨qS, oS⟩ ?_
    repeat' (first | (refine And.intro ?_ ?_) | (intro _) | exact rfl)
    all_goals first | exact congrArg W.hi e2 | exact congrArg W.lo e2 | exact congrArg W.neg e2 | (show y.lo - x.rem y = IntKind.u64.wrap (y.lo - x.rem y); rw [wu]; omega)
noncomputable def conFloor : Con cx := walkCon 110 Tryz.call110 (rds2 rdW rdW) (fun a => [a.1.In, 1 ≤ a.2.lo ∧ a.2.lo < 18446744073709551616, a.1.quo a.2 < 4611686018427387904]) (fun a => .tup [(wFloor a.1 a.2).1.sv, .v (.int .u64 (wFloor a.1 a.2).2)]) (fun _ => ⟨[4], [], [], 0⟩) [4] (fun _ => rfl) follows Tryz.func110 (by kernel_rfl) Floor_walk
/-- What lies n parts of d of the way from a to b, rounded down. -/
def lerpI (a b n d : Int) : Int := a + (b - a) * n / d
/-- Numbers that Lerp is asked for. -/
structure LerpOk (a b n d : Int) : Prop where
  a0 : -1099511627776 ≤ a
  a1 : a ≤ 1099511627776
  b0 : -1099511627776 ≤ b
  b1 : b ≤ 1099511627776
  ab : b - a < 4294967296
  ba : a - b < 4294967296
  n0 : 0 ≤ n
  nd : n ≤ d
  d0 : 1 ≤ d
  d1 : d ≤ 34359738368
def wDiff' (c : Int) : W := ⟨0, c.natAbs, decide (c < 0)⟩
theorem div_of {X d q r : Int} (hd : 1 ≤ d) (h0 : 0 ≤ r) (h1 : r < d) (h : X = r + d * q) : X / d = q := by
  rw [h, Int.add_mul_ediv_left _ _ (by omega), Int.ediv_eq_zero_of_lt h0 h1, Int.zero_add]
theorem floor_eq {c n d : Int} (hc : -4294967296 < c ∧ c < 4294967296) (hn : 0 ≤ n) (hnd : n ≤ d) (hd : 1 ≤ d) (hd1 : d ≤ 34359738368) :
    (wMul (wDiff' c) (wOf n)).In ∧ (wMul (wDiff' c) (wOf n)).quo (wOf d) < 4611686018427387904 ∧ (wFloor (wMul (wDiff' c) (wOf n)) (wOf d)).1 = wOf (c * n / d) ∧ smallI (c * n / d) := by
  have en : ((n.natAbs : Nat) : Int) = n := by omega
  have ed : ((d.natAbs : Nat) : Int) = d := by omega
  have ew : wOf n = ⟨0, n, false⟩ := by unfold wOf; rw [en, decide_eq_false (by omega)]
  have ewd : wOf d = ⟨0, d, false⟩ := by unfold wOf; rw [ed, decide_eq_false (by omega)]
  generalize hC : ((c.natAbs : Nat) : Int) = C
  have hC0 : 0 ≤ C := by omega
  have hC1 : C < 4294967296 := by omega
  generalize hX : C * n = X
  have hX0 : 0 ≤ X := by rw [← hX]; exact Int.mul_nonneg hC0 hn
  have hXd : X ≤ C * d := by rw [← hX]; exact Int.mul_le_mul_of_nonneg_left hnd hC0
  have hX1 : X ≤ 4294967296 * 34359738368 := by rw [← hX]; exact Int.mul_le_mul (by omega) (by omega) hn (by omega)
  have hq0 : 0 ≤ X / d := Int.ediv_nonneg hX0 (by omega)
  have hq1 : X / d ≤ C := Int.ediv_le_of_le_mul (by omega) hXd
  have hr0 : 0 ≤ X % d := Int.emod_nonneg _ (by omega)
  have hr1 : X % d < d := Int.emod_lt_of_pos _ (by omega)
  have hqr : X % d + d * (X / d) = X := Int.emod_add_mul_ediv X d
  have em : wMul (wDiff' c) (wOf n) = wMade ⟨X / 18446744073709551616, X % 18446744073709551616⟩ (decide (c < 0)) := by
    unfold wMul wDiff' szTimes
    rw [ew]
    simp only [hC, hX]
    cases decide (c < 0) <;> rfl
  have ev : X / 18446744073709551616 * 18446744073709551616 + X % 18446744073709551616 = X := by omega
  have eq : (wMul (wDiff' c) (wOf n)).quo (wOf d) = X / d := by
    unfold W.quo
    rw [em, ewd]
    show (X / 18446744073709551616 * 18446744073709551616 + X % 18446744073709551616) / d = X / d
    rw [ev]
  have er : (wMul (wDiff' c) (wOf n)).rem (wOf d) = X % d := by
    unfold W.rem
    rw [em, ewd]
    show (X / 18446744073709551616 * 18446744073709551616 + X % 18446744073709551616) % d = X % d
    rw [ev]
  have eD : szDiv ⟨(wMul (wDiff' c) (wOf n)).hi, (wMul (wDiff' c) (wOf n)).lo⟩ (wOf d).lo = ⟨0, X / d⟩ := by
    rw [em, ewd]
    show (⟨(X / 18446744073709551616 * 18446744073709551616 + X % 18446744073709551616) / d / 18446744073709551616, (X / 18446744073709551616 * 18446744073709551616 + X % 18446744073709551616) / d % 18446744073709551616⟩ : Sz) = _
    rw [ev]
    congr 1 <;> omega
  have eN : (wMul (wDiff' c) (wOf n)).neg = (decide (c < 0) && !decide (X = 0)) := by
    rw [em]
    show (decide (c < 0) && !(decide (X / 18446744073709551616 = 0) && decide (X % 18446744073709551616 = 0))) = _
    congr 2
    rw [Bool.eq_iff_iff, Bool.and_eq_true, decide_eq_true_eq, decide_eq_true_eq, decide_eq_true_eq]
    omega
  have eNd : (wOf d).neg = false := by rw [ewd]
  refine ⟨?_, by rw [eq]; omega, ?_, ?_⟩
  · rw [em]
    unfold W.In u64 wMade
    refine ⟨⟨?_, ?_⟩, ?_, ?_⟩ <;> dsimp only <;> omega
  · by_cases hneg : c < 0 ∧ X ≠ 0
    · have e1 : (decide (c < 0) && !decide (X = 0)) = true := by simp [hneg]
      have ecn : c * n = -X := by rw [show c = -C by omega, Int.neg_mul, hX]
      by_cases hr : X % d = 0
      · have e2 : c * n / d = -(X / d) := by
          rw [ecn]
          refine div_of hd (Int.le_refl 0) (by omega) ?_
          rw [Int.mul_neg, Int.zero_add]
          omega
        unfold wFloor
        rw [eN, eNd, er, e1, decide_eq_true hr]
        show wMade (szDiv _ _) _ = _
        rw [eD, e2]
        refine wMade_of (by omega) ?_
        have : X / d ≠ 0 := fun h => by rw [h] at hqr; omega
        exact ⟨fun h => by have := h.2; omega, fun h => ⟨rfl, by omega⟩⟩
      · have e2 : c * n / d = -(X / d) - 1 := by
          rw [ecn]
          refine div_of (r := d - X % d) hd (by omega) (by omega) ?_
          rw [Int.mul_sub, Int.mul_neg, Int.mul_one]
          omega
        unfold wFloor
        rw [eN, eNd, er, e1, decide_eq_false hr]
        show wMade ⟨0, W.quo _ _ + 1⟩ true = _
        rw [eq, e2]
        refine wMade_of (by omega) ?_
        simp only [true_and]
        omega
    · have e1 : (decide (c < 0) && !decide (X = 0)) = false := by
        rw [Bool.and_eq_false_iff, Bool.not_eq_false', decide_eq_false_iff_not, decide_eq_true_eq]
        omega
      have ecn : c * n = X := by
        by_cases h : c < 0
        · have : X = 0 := by omega
          rw [show c = -C by omega, Int.neg_mul, hX]; omega
        · rw [show c = C by omega, hX]
      unfold wFloor
      rw [eN, eNd, er, e1]
      show wMade (szDiv _ _) _ = _
      rw [eD, ecn]
      refine wMade_of (by omega) ?_
      exact ⟨fun h => absurd h.1 (by decide), fun h => by omega⟩
  · unfold smallI
    have hb : -(C * 1) - 1 ≤ c * n / d ∧ c * n / d ≤ C + 1 := by
      have h1 : -X ≤ c * n := by
        by_cases h : c < 0
        · rw [show c = -C by omega, Int.neg_mul, hX]; omega
        · rw [show c = C by omega, hX]; omega
      have h2 : c * n ≤ X := by
        by_cases h : c < 0
        · rw [show c = -C by omega, Int.neg_mul, hX]; omega
        · rw [show c = C by omega, hX]; omega
      constructor
      · refine (Int.le_ediv_iff_mul_le (by omega)).2 ?_
        have : (-(C * 1) - 1) * d = -(C * d) - d := by rw [Int.mul_one, Int.sub_mul, Int.neg_mul, Int.one_mul]
        omega
      · refine Int.ediv_le_of_le_mul (by omega) ?_
        have : (C + 1) * d = C * d + d := by rw [Int.add_mul, Int.one_mul]
        omega
    omega
set_option maxHeartbeats 2000000 in
set_option maxRecDepth 8000 in
theorem Lerp_walk : ∀ a, conj ((fun a => [LerpOk a.1 a.2.1 a.2.2.1 a.2.2.2]) a) → evFn (C := cx) [conDiff, conOf, conMulT, conFloor, conSumS, conSat] [] 0 noHow Tryz.f86 ((rds4 (rdI .i64) (rdI .i64) (rdI .i64) (rdI .i64)).enc a) fun v H _ => resOut ((fun a => .tup [.v (.int .i64 (lerpI a.1 a.2.1 a.2.2.1 a.2.2.2)), .il .i64 0]) a) H v := by
  intro ⟨a, b, n, d⟩ h
  replace h : LerpOk a b n d := h
  obtain ⟨a0, a1, b0, b1, ab, ba, n0, nd, d0, d1⟩ := h
  obtain ⟨f1, f2, f3, f4⟩ := floor_eq (c := b - a) (n := n) (d := d) (by omega) n0 nd d0 d1
  have ed : ((d.natAbs : Nat) : Int) = d := by omega
  refine And.intro (fun hb => ?_) (fun hb => ?_)
  · have hb : decide (d = 0) = true := hb
    have := of_decide_eq_true hb
    omega
  have ra : InR a := by unfold InR; omega
  have rb : InR b := by unfold InR; omega
  have rn : InR n := by unfold InR; omega
  have rd : InR d := by unfold InR; omega
  have eDf : wDiff b a = wDiff' (b - a) := by
    unfold wDiff wDiff'
    congr 1
    rw [decide_eq_decide]
    omega
  have fD : ∀ x, x = wDiff b a → x.lo < 4294967296 ∧ 0 ≤ x.lo := fun x hx => by
    rw [hx]; unfold wDiff; dsimp only; omega
  have fN : u64 (wOf n).lo := by unfold u64 wOf; dsimp only; omega
  rw [← eDf] at f1 f2 f3
  have q1 : (0 : Int) ≤ (wDiff b a).lo ∧ (wDiff b a).lo < 4294967296 := ⟨(fD _ rfl).2, (fD _ rfl).1⟩
  have q2 : (1 : Int) ≤ (wOf d).lo ∧ (wOf d).lo < 18446744073709551616 := by unfold wOf; dsimp only; omega
  refine And.intro ⟨rb, ra⟩ ?_
  refine And.intro rn ?_
  refine And.intro ⟨q1, fN⟩ ?_
  refine And.intro rd ?_
  refine And.intro ⟨f1, q2, f2⟩ ?_
  refine And.intro ra ?_
  have sa : smallI a := by unfold smallI; omega
  refine And.intro ⟨two_al trivial trivial, rfl, a, (b - a) * n / d, sa, f4, rfl, f3⟩ ?_
  have es : wSat (wOf a) + wSat (wFloor (wMul (wDiff b a) (wOf n)) (wOf d)).1 = lerpI a b n d := by
    rw [f3, wSat_of, wSat_of]; rfl
  have sm : W.small (wOf (wSat (wOf a) + wSat (wFloor (wMul (wDiff b a) (wOf n)) (wOf d)).1)) := by
    rw [es]
    unfold smallI at f4
    unfold W.small wOf lerpI
    refine ⟨rfl, ?_, ?_⟩ <;> dsimp only <;> omega
  refine And.intro sm ?_
  refine And.intro ?_ rfl
  show lerpI a b n d = wSat (wOf (wSat (wOf a) + wSat (wFloor (wMul (wDiff b a) (wOf n)) (wOf d)).1))
  rw [es, wSat_of]
noncomputable def conLerp : Con cx := walkCon 86 Tryz.call86 (rds4 (rdI .i64) (rdI .i64) (rdI .i64) (rdI .i64)) (fun a => [LerpOk a.1 a.2.1 a.2.2.1 a.2.2.2]) (fun a => .tup [.v (.int .i64 (lerpI a.1 a.2.1 a.2.2.1 a.2.2.2)), .il .i64 0]) (fun _ => noHow) [] (fun _ => rfl) follows Tryz.func86 (by kernel_rfl) Lerp_walk
end Go.Proofs.YtjdohgcolhpegaaGreatDoor.Df
namespace Go.Proofs.YtjdohgcolhpegaaGreatDoor
open Go.RowKit

set_option maxHeartbeats 2000000 in
set_option maxRecDepth 8000 in
theorem CloneO_walk : ∀ a, conj ((fun a => [a.n ≤ 1000]) a) → evFn (C := cx) [] [] 0 noHow Tryz.f84 ((rds1 rdCms).enc a) fun v H _ => resOutO ((fun a => a.sv) a) 46 H v := by
  intro l hm
  replace hm : l.n ≤ 1000 := hm
  intro b hb
  refine And.intro (fun h => ?_) (fun h => ?_)
  · have h : (b != false) = true := h
    have hn := hb (by simpa using h)
    exact ⟨hn, hn⟩
  have hf : fitO l.n 40 := ⟨Nat.le_trans hm (by decide), by omega⟩
  refine And.intro hf ?_
  repeat' (first | (refine And.intro ?_ ?_) | (intro _) | exact rfl)
  all_goals (show (_ : Int) = _; first | (rw [Nat.zero_add]; done) | (rw [Nat.zero_add]; rfl))
noncomputable def conCloneO : Con cx := walkConO 84 Tryz.call84 (rds1 rdCms) (fun a => [a.n ≤ 1000]) (fun a => a.sv) 46 (fun _ => noHow) [] (fun _ => rfl) follows Tryz.func84 (by kernel_rfl) CloneO_walk
set_option maxHeartbeats 2000000 in
set_option maxRecDepth 8000 in
theorem SOwnO_walk : ∀ a, conj ((fun a => [a.l.n ≤ 1000]) a) → evFn (C := cx) [conCloneO] [] 0 noHow Tryz.f70 ((rds1 rdEnt).enc a) fun v H _ => resOutO ((fun a => a.sv) a) 46 H v := by
  intro e hm
  refine And.intro ⟨fun _ _ => trivial, hm⟩ ?_
  repeat' (first | (refine And.intro ?_ ?_) | (intro _) | exact rfl)
  all_goals (show (_ : Int) = _; first | (rw [Nat.zero_add]; done) | (rw [Nat.zero_add]; rfl))
noncomputable def conSOwnO : Con cx := walkConO 70 Tryz.call70 (rds1 rdEnt) (fun a => [a.l.n ≤ 1000]) (fun a => a.sv) 46 (fun _ => noHow) [] (fun _ => rfl) follows Tryz.func70 (by kernel_rfl) SOwnO_walk
theorem putF_al {α : Type} {k : Nat} {x : α} {f : Nat → α} {p : Nat → α → Prop} (h1 : p k x) (h2 : ∀ i, i < k → p i (f i)) : ∀ i, i < k + 1 → p i (putF k x f i) := fun i hi => by
  by_cases e : i = k
  · subst e; rw [putF_eq]; exact h1
  · rw [putF_ne e]; exact h2 i (by omega)
/-- A list of entities that is made round by round. -/
def nstE (l : Ens) (k e : Nat) : SB := .nst e 2 k (fun i => [.v (.int .i64 (l.e i).iD), .e]) 1 5 (fun i => ((l.e i).l.n, fun j => ((l.e i).l.c j).cells)) 46 35 none
def zeroW : List SV := [.il .i64 0, .v (.slice none 0 0)]
/-- interp.own's loop: b: the number of the first name. -/
def ownC (w : Wor) (b : Nat) : Cut := ⟨Nat, fun k => k ≤ w.l.n, fun k => ⟨[sl 2 (.p (b + 1) 0), sl 3 (.p (b + 2) 0), sl 10 w.l.sv, sl 11 (i64 w.l.n), sl 12 (i64 k)],
  [(b + 1, .lay zeroW 25), (b + 2, .lay [.v (.int .i64 w.tick), .g (b + 3) (b + 4) 2 0 k] 25), (b + 3, nstE w.l k (b + 4))], b + 5, 0, [], []⟩, fun k => w.l.n - k⟩
set_option maxHeartbeats 2000000 in
set_option maxRecDepth 8000 in
theorem WOwn_walk : ∀ a, conj ((fun a => [a.l.n ≤ 1000, ∀ i, i < a.l.n → (a.l.e i).l.n ≤ 1000]) a) → evFn (C := cx) [conCloneO] [] 0 ⟨[], [], [3], 0⟩ Tryz.f56 ((rds1 rdWor).enc a) fun v H _ => resOutF ((fun a => a.sv) a) H v := by
  intro w ⟨hn, hl⟩
  replace hn : w.l.n ≤ 1000 := hn
  replace hl : ∀ i, i < w.l.n → (w.l.e i).l.n ≤ 1000 := hl
  refine Exists.intro (ownC w 0) ?_
  refine And.intro ?_ ?_
  · refine ⟨(0 : Nat), [], [.cellN 2 1 2 1 5 46 35], trivial, Nat.zero_le _, ?_⟩
    repeat' (first | (refine And.intro ?_ ?_) | (intro _) | exact rfl)
    all_goals exact absurd ‹_ < 0› (Nat.not_lt_zero _)
  refine fun (k : Nat) (hk : k ≤ w.l.n) => ?_
  refine And.intro (fun hb => ?_) (fun hb => ?_)
  · have hb : (k : Int) < w.l.n := of_decide_eq_true hb
    refine And.intro ⟨by omega, by omega⟩ ?_
    refine And.intro ⟨fun _ _ => trivial, hl k (by omega)⟩ ?_
    have hfit : fitO (k + 1) 32 := ⟨Nat.le_trans (by omega : k + 1 ≤ 1001) (by decide), by omega⟩
    refine And.intro ⟨hfit, ?_⟩ ?_
    · repeat' (first | (refine And.intro ?_ ?_) | (intro _) | exact rfl)
    refine And.intro (by unfold I64; omega : I64 ((k : Int) + 1)) ?_
    refine ⟨k + 1, [(4, 8)], [.absorb 3], (by show w.l.n - (k + 1) < w.l.n - k; omega), (by omega : k + 1 ≤ w.l.n), ?_⟩
    repeat' (first | (refine And.intro ?_ ?_) | (intro _) | exact rfl)
    · refine putF_al (α := List SV) (p := fun i y => conjO (vqL 5 [(4, 8)] (List.set [SV.v (Value.int IntKind.i64 (w.l.e i).iD), SV.e] 1 SV.e) (y.set 1 SV.e))) ?_ ?_ _ ‹_›
      · exact rfl
      · exact fun i _ => rfl
    · refine putF_al (α := Nat × (Nat → List SV)) (p := fun i y => (w.l.e i).l.n = y.1) ?_ ?_ _ ‹_›
      · exact rfl
      · exact fun i _ => rfl
    · refine putF_al (α := Nat × (Nat → List SV)) (p := fun i y => ∀ j, j < y.1 → conjO (vqL 5 [(4, 8)] ((w.l.e i).l.c j).cells (y.2 j))) ?_ ?_ _ ‹_› _ ‹_›
      · exact fun j _ => ⟨rfl, rfl, rfl, rfl, rfl⟩
      · exact fun i _ j _ => ⟨rfl, rfl, rfl, rfl, rfl⟩
  · have hb : ¬ (k : Int) < w.l.n := of_decide_eq_false hb
    obtain rfl : k = w.l.n := by omega
    repeat' (first | (refine And.intro ?_ ?_) | (intro _) | exact rfl)
    all_goals first | (show (_ : Int) = _; rw [Nat.zero_add]; done) | (show (_ : Nat) = _; rw [Nat.zero_add]; done) | (show (_ : Nat) = _; rw [Nat.zero_add]; rfl)
noncomputable def conWOwn : Con cx := walkConF 56 Tryz.call56 (rds1 rdWor) (fun a => [a.l.n ≤ 1000, ∀ i, i < a.l.n → (a.l.e i).l.n ≤ 1000]) (fun a => a.sv) (fun _ => ⟨[], [], [3], 0⟩) [] (fun _ => rfl) follows Tryz.func56 (by kernel_rfl) WOwn_walk
end Go.Proofs.YtjdohgcolhpegaaGreatDoor
namespace Go.Proofs.YtjdohgcolhpegaaGreatDoor
open Go.RowKit

def Wor.no : Wor := ⟨0, ⟨0, fun _ => Ent.no⟩⟩
/-- A loop that copies entities: b: the number of the first name; H0: what else there is. -/
def copC (w : Wor) (b : Nat) (H0 : Heap) : Cut := ⟨Nat, fun k => k ≤ w.l.n, fun k => ⟨[sl 2 (.p (b + 1) 0), sl 3 (.p (b + 2) 0), sl 10 w.l.sv, sl 11 (i64 w.l.n), sl 12 (i64 k)],
  (b + 1, .lay zeroW 25) :: (b + 2, .lay [.v (.int .i64 w.tick), .g (b + 3) (b + 4) 2 0 k] 25) :: (b + 3, nstE w.l k (b + 4)) :: H0, b + 5, 0, [], []⟩, fun k => w.l.n - k⟩
/-- A list of components with another one in the place k. -/
def Cms.put (l : Cms) (k : Nat) (c : Comp) : Cms := ⟨l.n, putF k c l.c⟩
def Ent.put (e : Ent) (k : Nat) (c : Comp) : Ent := ⟨e.iD, e.l.put k c⟩
def Wor.put (w : Wor) (i k : Nat) (c : Comp) : Wor := ⟨w.tick, ⟨w.l.n, putF i ((w.l.e i).put k c) w.l.e⟩⟩
def lowC (l : Cms) (q : Int) : Nat := lowB (fun i => (l.c i).kind) l.n q
def hitC (l : Cms) (q : Int) : Bool := hitB (fun i => (l.c i).kind) l.n q
def setE (w : Wor) (id : Int) (c : Comp) : Wor × Int := match w.valid && c.fits with
  | false => (Wor.no, 2)
  | true => match (findE w id).2 with
    | false => (Wor.no, 6)
    | true => (w.put (findE w id).1 (lowC (w.l.e (findE w id).1).l c.kind) c, 0)
/-- A list of components as one reads it through a list that was copied. -/
def Ens.rd (l : Ens) (i : Nat) : Cms := ⟨(l.e (0 + i)).l.n, fun j => (l.e (0 + i)).l.c (0 + j)⟩
theorem Ens.rd_eq {l : Ens} {i : Nat} : l.rd i = (l.e i).l := by unfold Ens.rd; simp only [Nat.zero_add]
theorem beq_no {a b : Nat} (h : a ≠ b) : Nat.beq a b = false := by
  cases e : Nat.beq a b with
  | false => rfl
  | true => exact absurd (Nat.eq_of_beq_eq_true e) h
theorem put_c {w : Wor} {a k i j : Nat} {c : Comp} : ((w.put a k c).l.e i).l.c j = bif andQ (Nat.beq i a) (Nat.beq j k) then c else (w.l.e i).l.c j := by
  show (putF a ((w.l.e a).put k c) w.l.e i).l.c j = _
  by_cases h : i = a
  · subst h
    rw [putF_eq]
    show putF k c (w.l.e i).l.c j = _
    by_cases h2 : j = k
    · subst h2; rw [putF_eq]; simp [andQ]
    · rw [putF_ne h2, beq_no h2]; simp [andQ]
  · rw [putF_ne h, beq_no h]; simp [andQ]
theorem put_id {w : Wor} {a k i : Nat} {c : Comp} : ((w.put a k c).l.e i).iD = (w.l.e i).iD := by
  show (putF a ((w.l.e a).put k c) w.l.e i).iD = _
  by_cases h : i = a
  · subst h; rw [putF_eq]; rfl
  · rw [putF_ne h]
theorem put_n {w : Wor} {a k i : Nat} {c : Comp} : ((w.put a k c).l.e i).l.n = (w.l.e i).l.n := by
  show (putF a ((w.l.e a).put k c) w.l.e i).l.n = _
  by_cases h : i = a
  · subst h; rw [putF_eq]; rfl
  · rw [putF_ne h]
noncomputable def inCopied : FnI cx := ⟨52, Tryz.call52, Tryz.f52, Tryz.func52, [], [], [3], 0, by kernel_rfl⟩
theorem Wor.Valid.two {w : Wor} (h : w.Valid) : w.l.n ≤ 64 ∧ ∀ i, i < w.l.n → (w.l.e i).l.n ≤ 10 := ⟨by have := h.len; omega, fun i hi => by have := (h.right i hi).len; omega⟩
set_option maxHeartbeats 4000000 in
set_option maxRecDepth 8000 in
theorem SetH_walk : ∀ a, conj ((fun (a : Wor × Int × Comp) => [a.1.l.Sm, 0 ≤ a.2.2.kind ∧ a.2.2.kind ≤ 255, a.1.valid = true → (findE a.1 a.2.1).2 = true → hitC (a.1.l.e (findE a.1 a.2.1).1).l a.2.2.kind = true]) a) → evFn (C := cx) [conWValid, conFits, conFind, conSOwnO, conPlC] [inCopied] 1 noHow Tryz.f19 ((rds3 rdWor (rdI .i64) rdComp).enc a) fun v H _ => resOutF ((fun a => .tup [(setE a.1 a.2.1 a.2.2).1.sv, .v (.int .i64 (setE a.1 a.2.1 a.2.2).2)]) a) H v := by
  intro ⟨w, id, c⟩ ⟨hm, hk, hh⟩
  replace hm : w.l.Sm := hm
  replace hk : 0 ≤ c.kind ∧ c.kind ≤ 255 := hk
  replace hh : w.valid = true → (findE w id).2 = true → hitC (w.l.e (findE w id).1).l c.kind = true := hh
  refine And.intro ⟨fun _ _ _ _ => trivial, hm⟩ ?_
  refine And.intro (fun _ => hk) ?_
  refine And.intro (fun hv => ?_) (fun hv => ?_)
  · have hv : (!w.valid || !c.fits) = true := hv
    have e : setE w id c = (Wor.no, 2) := by
      have : (w.valid && c.fits) = false := by cases h1 : w.valid <;> cases h2 : c.fits <;> simp [h1, h2] at hv ⊢
      unfold setE; rw [this]
    simp only [e]
    repeat' (first | (refine And.intro ?_ ?_) | (intro _) | exact rfl)
    all_goals exact absurd ‹_ < 0› (Nat.not_lt_zero _)
  have hv : (!w.valid || !c.fits) = false := hv
  have hv : (w.valid && c.fits) = true := by cases h1 : w.valid <;> cases h2 : c.fits <;> simp [h1, h2] at hv ⊢
  have hv1 : w.valid = true := (Bool.and_eq_true_iff.1 hv).1
  have hV := Wor.valid_iff.1 hv1
  obtain ⟨t1, t2⟩ := hV.two
  refine And.intro ⟨fun _ _ _ _ => trivial, hm⟩ ?_
  refine And.intro (fun hf => ?_) (fun hf => ?_)
  · have hf : (!(findE w id).2) = true := hf
    have hf : (findE w id).2 = false := by simpa using hf
    have e : setE w id c = (Wor.no, 6) := by unfold setE; rw [hv, hf]
    simp only [e]
    repeat' (first | (refine And.intro ?_ ?_) | (intro _) | exact rfl)
    all_goals exact absurd ‹_ < 0› (Nat.not_lt_zero _)
  have hf : (!(findE w id).2) = false := hf
  have hf : (findE w id).2 = true := by simpa using hf
  obtain ⟨-, g2, g3⟩ := find_hit hf
  have hh := hh hv1 hf
  have e : setE w id c = (w.put (findE w id).1 (lowC (w.l.e (findE w id).1).l c.kind) c, 0) := by unfold setE; rw [hv, hf]
  simp only [e]
  refine Exists.intro (copC w 3 [(0, .lay w.cells 25), (1, .lay c.cells 46), (2, .lay zeroW 25)]) ?_
  refine And.intro ?_ ?_
  · refine ⟨(0 : Nat), [], [.cellN 5 1 2 1 5 46 35], trivial, Nat.zero_le _, ?_⟩
    repeat' (first | (refine And.intro ?_ ?_) | (intro _) | exact rfl)
    all_goals first | exact absurd ‹_ < 0› (Nat.not_lt_zero _) | skip
  refine fun (k : Nat) (hk : k ≤ w.l.n) => ?_
  refine And.intro (fun hb => ?_) (fun hb => ?_)
  · have hb : (k : Int) < w.l.n := of_decide_eq_true hb
    refine And.intro ⟨by omega, by omega⟩ ?_
    refine And.intro ⟨fun _ _ => trivial, by have := t2 k (by omega); (show (w.l.e k).l.n ≤ 1000); omega⟩ ?_
    have hfit : fitO (k + 1) 32 := ⟨Nat.le_trans (by omega : k + 1 ≤ 1001) (by decide), by omega⟩
    refine And.intro ⟨hfit, ?_⟩ ?_
    · repeat' (first | (refine And.intro ?_ ?_) | (intro _) | exact rfl)
    refine And.intro (by unfold I64; omega : I64 ((k : Int) + 1)) ?_
    refine ⟨k + 1, [(7, 11)], [.absorb 6], (by show w.l.n - (k + 1) < w.l.n - k; omega), (by omega : k + 1 ≤ w.l.n), ?_⟩
    repeat' (first | (refine And.intro ?_ ?_) | (intro _) | exact rfl)
    · refine putF_al (α := List SV) (p := fun i y => conjO (vqL 8 [(7, 11)] (List.set [SV.v (Value.int IntKind.i64 (w.l.e i).iD), SV.e] 1 SV.e) (y.set 1 SV.e))) ?_ ?_ _ ‹_›
      · exact rfl
      · exact fun i _ => rfl
    · refine putF_al (α := Nat × (Nat → List SV)) (p := fun i y => (w.l.e i).l.n = y.1) ?_ ?_ _ ‹_›
      · exact rfl
      · exact fun i _ => rfl
    · refine putF_al (α := Nat × (Nat → List SV)) (p := fun i y => ∀ j, j < y.1 → conjO (vqL 8 [(7, 11)] ((w.l.e i).l.c j).cells (y.2 j))) ?_ ?_ _ ‹_› _ ‹_›
      · exact fun j _ => ⟨rfl, rfl, rfl, rfl, rfl⟩
      · exact fun i _ j _ => ⟨rfl, rfl, rfl, rfl, rfl⟩
  · have hb : ¬ (k : Int) < w.l.n := of_decide_eq_false hb
    obtain rfl : k = w.l.n := by omega
    have hr := hV.right _ g2
    have q1 : (0 : Int) ≤ ((findE w id).1 : Int) ∧ ((findE w id).1 : Int) < w.l.n := ⟨by omega, by omega⟩
    have q2 : ((w.l.rd (findE w id).1).n : Int) ≤ halfN := by rw [Ens.rd_eq]; have := hr.len; unfold halfN; omega
    have q4 : Inc (fun j => ((w.l.rd (findE w id).1).c j).kind) (w.l.rd (findE w id).1).n := by rw [Ens.rd_eq]; exact hr.inc
    refine And.intro q1 ?_
    refine And.intro ⟨fun _ _ => trivial, q2, q4, rfl⟩ ?_
    have hh' : hitC (w.l.rd (findE w id).1) c.kind = true := by rw [Ens.rd_eq]; exact hh
    refine And.intro (fun hc => ?_) (fun hc => ?_)
    rotate_left
    · have hc : hitC (w.l.rd (findE w id).1) c.kind = false := hc
      rw [hh'] at hc; cases hc
    have h4 : lowC (w.l.rd (findE w id).1) c.kind < (w.l.rd (findE w id).1).n := (hitB_iff.1 hh').1
    have q3 : (0 : Int) ≤ (lowC (w.l.rd (findE w id).1) c.kind : Int) ∧ (lowC (w.l.rd (findE w id).1) c.kind : Int) < (w.l.rd (findE w id).1).n := ⟨by omega, by omega⟩
    refine And.intro q3 ?_
    have eput : ∀ i j, ((w.put (findE w id).1 (lowC (w.l.e (findE w id).1).l c.kind) c).l.e i).l.c j = bif andQ (Nat.beq (0 + i) (0 + (findE w id).1)) (Nat.beq j (0 + lowC (w.l.rd (findE w id).1) c.kind)) then c else (w.l.e (0 + i)).l.c j := fun i j => by
      rw [Ens.rd_eq, put_c]
      simp only [Nat.zero_add]
    repeat' (first | (refine And.intro ?_ ?_) | (intro _) | exact rfl)
    · exact trivial
    · exact (put_id (w := w)).trans (congrArg (fun i => (w.l.e i).iD) (Nat.zero_add _).symm)
    · exact (put_n (w := w)).trans (congrArg (fun i => (w.l.e i).l.n) (Nat.zero_add _).symm)
    all_goals first | exact (congrArg Comp.kind (eput _ _)).trans (apply_bif Comp.kind) | exact (congrArg Comp.v0 (eput _ _)).trans (apply_bif Comp.v0) | exact (congrArg Comp.v1 (eput _ _)).trans (apply_bif Comp.v1) | exact (congrArg Comp.v2 (eput _ _)).trans (apply_bif Comp.v2) | exact (congrArg Comp.v3 (eput _ _)).trans (apply_bif Comp.v3)
noncomputable def conSetH : Con cx := walkConF 19 Tryz.call19 (rds3 rdWor (rdI .i64) rdComp) (fun (a : Wor × Int × Comp) => [a.1.l.Sm, 0 ≤ a.2.2.kind ∧ a.2.2.kind ≤ 255, a.1.valid = true → (findE a.1 a.2.1).2 = true → hitC (a.1.l.e (findE a.1 a.2.1).1).l a.2.2.kind = true]) (fun a => .tup [(setE a.1 a.2.1 a.2.2).1.sv, .v (.int .i64 (setE a.1 a.2.1 a.2.2).2)]) (fun _ => noHow) [] (fun _ => rfl) follows Tryz.func19 (by kernel_rfl) SetH_walk
theorem get_hitC {w : Wor} {id q : Int} (h : (getE w id q).2 = true) : (findE w id).2 = true ∧ hitC (w.l.e (findE w id).1).l q = true ∧ (getE w id q).1 = (w.l.e (findE w id).1).l.c (lowC (w.l.e (findE w id).1).l q) ∧ (getE w id q).1.kind = q := by
  unfold getE at *
  cases hf : (findE w id).2 with
  | false => rw [hf] at h; cases h
  | true =>
    rw [hf] at h
    simp only at h ⊢
    unfold getC at *
    cases hh : hitB (fun i => ((w.l.e (findE w id).1).l.c i).kind) (w.l.e (findE w id).1).l.n q with
    | false => rw [hh] at h; cases h
    | true => exact ⟨trivial, hh, rfl, (hitB_iff.1 hh).2⟩
/-- What life is left. -/
def hurtC (c : Comp) (p : Int) : Comp := ⟨c.kind, max 0 (c.v0 - max 0 (p - c.v1)), c.v1, c.v2, c.v3⟩
def hurtE (w : Wor) (id p : Int) : Wor × Int := match w.valid && (decide (0 ≤ p) && decide (p ≤ 1048576)) with
  | false => (Wor.no, 2)
  | true => match (getE w id 8).2 with
    | false => (Wor.no, 6)
    | true => setE w id (hurtC (getE w id 8).1 p)
theorem get_fits {w : Wor} {id q : Int} (h : (getE w id q).2 = true) : w.Valid ∧ (getE w id q).1.Fits := by
  obtain ⟨h1, h2, h3, h4⟩ := get_hitC h
  obtain ⟨g1, g2, g3⟩ := find_hit h1
  rw [h3]
  exact ⟨g1, (g1.right _ g2).fits _ (hitB_iff.1 h2).1⟩
set_option maxHeartbeats 4000000 in
set_option maxRecDepth 8000 in
theorem Hurt_walk : ∀ a, conj ((fun (a : Wor × Int × Int) => [a.1.l.Sm]) a) → evFn (C := cx) [conWValid, conGet, conSetH] [] 0 noHow Tryz.f17 ((rds3 rdWor (rdI .i64) (rdI .i64)).enc a) fun v H _ => resOut ((fun a => .tup [(hurtE a.1 a.2.1 a.2.2).1.sv, .v (.int .i64 (hurtE a.1 a.2.1 a.2.2).2)]) a) H v := by
  intro ⟨w, id, p⟩ hm
  replace hm : w.l.Sm := hm
  refine And.intro ⟨fun _ _ _ _ => trivial, hm⟩ ?_
  refine And.intro (fun hv => ?_) (fun hv => ?_)
  · have hv : ((!w.valid || decide (p < 0)) || decide (p > 1048576)) = true := hv
    have e : hurtE w id p = (Wor.no, 2) := by
      have : (w.valid && (decide (0 ≤ p) && decide (p ≤ 1048576))) = false := by
        cases hw : w.valid with
        | false => rfl
        | true =>
          rw [hw] at hv
          simp only [Bool.not_true, Bool.false_or, Bool.or_eq_true, decide_eq_true_eq] at hv
          simp only [Bool.true_and, Bool.and_eq_false_iff, decide_eq_false_iff_not]
          omega
      unfold hurtE; rw [this]
    simp only [e]
    repeat' (first | (refine And.intro ?_ ?_) | (intro _) | exact rfl)
    all_goals exact absurd ‹_ < 0› (Nat.not_lt_zero _)
  have hv : ((!w.valid || decide (p < 0)) || decide (p > 1048576)) = false := hv
  have hp : (w.valid && (decide (0 ≤ p) && decide (p ≤ 1048576))) = true := by
    simp only [Bool.or_eq_false_iff, Bool.not_eq_false', decide_eq_false_iff_not] at hv
    simp only [Bool.and_eq_true, decide_eq_true_eq]
    exact ⟨hv.1.1, by omega, by omega⟩
  have hp2 : 0 ≤ p ∧ p ≤ 1048576 := by simpa using (Bool.and_eq_true_iff.1 hp).2
  refine And.intro ⟨fun _ _ _ _ => trivial, hm⟩ ?_
  refine And.intro (fun hf => ?_) (fun hf => ?_)
  · have hf : (!(getE w id 8).2) = true := hf
    have hf : (getE w id 8).2 = false := by simpa using hf
    have e : hurtE w id p = (Wor.no, 6) := by unfold hurtE; rw [hp, hf]
    simp only [e]
    repeat' (first | (refine And.intro ?_ ?_) | (intro _) | exact rfl)
    all_goals exact absurd ‹_ < 0› (Nat.not_lt_zero _)
  have hf : (!(getE w id 8).2) = false := hf
  have hf : (getE w id 8).2 = true := by simpa using hf
  have e : hurtE w id p = setE w id (hurtC (getE w id 8).1 p) := by unfold hurtE; rw [hp, hf]
  simp only [e]
  obtain ⟨h1, h2, h3, h4⟩ := get_hitC hf
  obtain ⟨g1, g2⟩ := get_fits hf
  obtain ⟨x1, x2, x3, x4, -⟩ := g2.2.2.2.2.2.2.2.2.2.1 h4
  have o1 : I64 (p - (getE w id 8).1.v1) := by unfold I64; omega
  have o2 : I64 ((getE w id 8).1.v0 - max 0 (p - (getE w id 8).1.v1)) := by unfold I64; omega
  refine And.intro o1 ?_
  refine And.intro o2 ?_
  have s1 : 0 ≤ (getE w id 8).1.kind ∧ (getE w id 8).1.kind ≤ 255 := by rw [h4]; omega
  refine And.intro ⟨fun _ _ _ _ => trivial, hm, s1, fun _ _ => ?_⟩ ?_
  · show hitC (w.l.e (findE w id).1).l (getE w id 8).1.kind = true
    rw [h4]; exact h2
  repeat' (first | (refine And.intro ?_ ?_) | (intro _) | exact rfl)
noncomputable def conHurt : Con cx := walkCon 17 Tryz.call17 (rds3 rdWor (rdI .i64) (rdI .i64)) (fun (a : Wor × Int × Int) => [a.1.l.Sm]) (fun a => .tup [(hurtE a.1 a.2.1 a.2.2).1.sv, .v (.int .i64 (hurtE a.1 a.2.1 a.2.2).2)]) (fun _ => noHow) [] (fun _ => rfl) follows Tryz.func17 (by kernel_rfl) Hurt_walk
end Go.Proofs.YtjdohgcolhpegaaGreatDoor
namespace Go.Proofs.YtjdohgcolhpegaaGreatDoor
open Go.RowKit

set_option maxHeartbeats 2000000 in
set_option maxRecDepth 8000 in
theorem Bt1_walk : ∀ a, conj ((fun (a : Int × Int × SV × SV) => [Df.LerpOk a.1 a.2.1 (rkI a.2.2.1) (rkI a.2.2.2), ∃ q, a.2.2.1 = .rp [.v (.int .i64 q)] 0, ∃ q, a.2.2.2 = .rp [.v (.int .i64 q)] 0]) a) → evFn (C := cx) [Df.conLerp] [] 0 noHow Tryz.f85 ((rds4 (rdI .i64) (rdI .i64) rdX rdX).enc a) fun v H _ => resOut ((fun a => .v (.int .i64 (Df.lerpI a.1 a.2.1 (rkI a.2.2.1) (rkI a.2.2.2)))) a) H v := by
  intro ⟨x, y, p, q⟩ ⟨hl, ⟨n, hp⟩, ⟨d, hq⟩⟩
  replace hp : p = .rp [.v (.int .i64 n)] 0 := hp
  replace hq : q = .rp [.v (.int .i64 d)] 0 := hq
  subst hp hq
  replace hl : Df.LerpOk x y n d := hl
  refine And.intro hl ?_
  exact rfl
noncomputable def conBt1 : Con cx := walkCon 85 Tryz.call85 (rds4 (rdI .i64) (rdI .i64) rdX rdX) (fun (a : Int × Int × SV × SV) => [Df.LerpOk a.1 a.2.1 (rkI a.2.2.1) (rkI a.2.2.2), ∃ q, a.2.2.1 = .rp [.v (.int .i64 q)] 0, ∃ q, a.2.2.2 = .rp [.v (.int .i64 q)] 0]) (fun a => .v (.int .i64 (Df.lerpI a.1 a.2.1 (rkI a.2.2.1) (rkI a.2.2.2)))) (fun _ => noHow) [] (fun _ => rfl) follows Tryz.func85 (by kernel_rfl) Bt1_walk
def posC (l : Cms) : Cut := ⟨Nat, fun k => k ≤ l.n ∧ ixN (fun i => decide ((l.c i).kind = 1)) 0 l.n = ixN (fun i => decide ((l.c i).kind = 1)) k (l.n - k),
  fun k => ⟨[sl 2 (.p 1 0), sl 7 l.sv, sl 8 (i64 l.n), sl 9 (i64 k)], [(1, .lay [.il .i64 0, .il .i64 0] 27)], 2, 0, [], []⟩, fun k => l.n - k⟩
theorem cmpF_yes {l : Cms} {q : Int} {k : Nat} (h : ixN (fun i => decide ((l.c i).kind = q)) 0 l.n = k) (hk : k < l.n) : cmpF l q = (l.c k, true) := by
  unfold cmpF; rw [h, decide_eq_true hk]
theorem cmpF_none {l : Cms} {q : Int} (h : ixN (fun i => decide ((l.c i).kind = q)) 0 l.n = l.n) : cmpF l q = (Comp.no, false) := by
  unfold cmpF; rw [h, decide_eq_false (Nat.lt_irrefl _)]
set_option maxHeartbeats 2000000 in
set_option maxRecDepth 8000 in
theorem Posn_walk : ∀ a, conj ((fun (a : Ent) => [(a.l.n : Int) ≤ bigN]) a) → evFn (C := cx) [] [] 0 ⟨[], [], [2], 0⟩ Tryz.f87 ((rds1 rdEnt).enc a) fun v H _ => resOut ((fun a => .tup [(pointF a).1.sv, .v (.bool (pointF a).2)]) a) H v := by
  intro e hm
  replace hm : (e.l.n : Int) ≤ 9223372036854775807 := hm
  refine Exists.intro (posC e.l) ?_
  refine And.intro ?_ ?_
  · refine ⟨(0 : Nat), [], [], trivial, ⟨Nat.zero_le _, rfl⟩, ?_⟩
    repeat' (first | (refine And.intro ?_ ?_) | (intro _) | exact rfl)
  refine fun (k : Nat) (hk : k ≤ e.l.n ∧ ixN (fun i => decide ((e.l.c i).kind = 1)) 0 e.l.n = ixN (fun i => decide ((e.l.c i).kind = 1)) k (e.l.n - k)) => ?_
  obtain ⟨k1, k2⟩ := hk
  refine And.intro (fun hb => ?_) (fun hb => ?_)
  · have hb : (k : Int) < e.l.n := of_decide_eq_true hb
    have ek := ixN_step (g := (fun i => decide ((e.l.c i).kind = 1))) (k := k) (n := e.l.n) (by omega)
    refine And.intro ⟨by omega, by omega⟩ ?_
    refine And.intro (fun hc => ?_) (fun hc => ?_)
    · have hc : (decide ((e.l.c k).kind = 1)) = true := hc
      simp only [hc] at ek
      have ec := cmpF_yes (q := 1) (k2.trans ek) (by omega)
      have ep : pointF e = (⟨(e.l.c k).v0, (e.l.c k).v1⟩, true) := by unfold pointF; rw [ec]
      simp only [ep]
      repeat' (first | (refine And.intro ?_ ?_) | (intro _) | exact rfl)
    · have hc : (decide ((e.l.c k).kind = 1)) = false := hc
      simp only [hc] at ek
      refine And.intro (by unfold I64; omega : I64 ((k : Int) + 1)) ?_
      refine ⟨k + 1, [], [], (by show e.l.n - (k + 1) < e.l.n - k; omega), ⟨by omega, by rw [k2, ek]⟩, ?_⟩
      repeat' (first | (refine And.intro ?_ ?_) | (intro _) | exact rfl)
  · have hb : ¬ (k : Int) < e.l.n := of_decide_eq_false hb
    have ec := cmpF_none (l := e.l) (q := 1) (by rw [k2, show e.l.n - k = 0 by omega]; show k = e.l.n; omega)
    have ep : pointF e = (⟨0, 0⟩, false) := by unfold pointF; rw [ec]; rfl
    simp only [ep]
    repeat' (first | (refine And.intro ?_ ?_) | (intro _) | exact rfl)
noncomputable def conPosn : Con cx := walkCon 87 Tryz.call87 (rds1 rdEnt) (fun (a : Ent) => [(a.l.n : Int) ≤ bigN]) (fun a => .tup [(pointF a).1.sv, .v (.bool (pointF a).2)]) (fun _ => ⟨[], [], [2], 0⟩) [] (fun _ => rfl) follows Tryz.func87 (by kernel_rfl) Posn_walk
/-- A component on its way. -/
def moveC (t : Vec) (n d : Int) (c : Comp) : Comp := match decide (c.kind = 1) with
  | true => ⟨c.kind, Df.lerpI c.v0 t.x n d, Df.lerpI c.v1 t.y n d, c.v2, c.v3⟩
  | false => c
/-- An entity on its way to where it is in the world b. -/
def mvE (b : Wor) (n d : Int) (e : Ent) : Ent := match (findE b e.iD).2 with
  | false => e
  | true => match (pointF (b.l.e (findE b e.iD).1)).2 with
    | false => e
    | true => ⟨e.iD, ⟨e.l.n, fun k => moveC (pointF (b.l.e (findE b e.iD).1)).1 n d (e.l.c k)⟩⟩
def betB (a b : Wor) (n d : Int) : Bool := !a.valid || !b.valid || decide (b.tick ≤ a.tick) || decide (d < 1) || decide (34359738368 < d) || decide (n < 0) || decide (d < n)
def betwE (a b : Wor) (n d : Int) : Wor × Int := match betB a b n d with
  | true => (Wor.no, 2)
  | false => match decide (n = d) with
    | true => (b, 0)
    | false => (⟨Df.lerpI a.tick b.tick n d, ⟨a.l.n, fun i => mvE b n d (a.l.e i)⟩⟩, 0)
end Go.Proofs.YtjdohgcolhpegaaGreatDoor
