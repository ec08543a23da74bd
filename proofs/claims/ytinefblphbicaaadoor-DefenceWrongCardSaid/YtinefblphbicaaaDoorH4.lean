/- Wide numbers. -/
import Derived.Test.YtinefblphbicaaaDoorH2
namespace Go.Proofs.YtinefblphbicaaaDoor
open Go.RowKit

structure Sz where
  hi : Int
  lo : Int
def Sz.cells (b : Sz) : List SV := [.v (.int .u64 b.hi), .v (.int .u64 b.lo)]
def Sz.sv (b : Sz) : SV := .agg b.cells
def Sz.of (x : SV) : Sz := ⟨(hdS (x.al)).iv, (hdS (tlS (x.al))).iv⟩
def rdSz : Rd Sz := ⟨.agg [.v (.int .u64 0), .v (.int .u64 0)], Sz.of, Sz.sv, fun _ => rfl⟩

structure W where
  hi : Int
  lo : Int
  neg : Bool
def W.cells (b : W) : List SV := [.v (.int .u64 b.hi), .v (.int .u64 b.lo), .v (.bool b.neg)]
def W.sv (b : W) : SV := .agg b.cells
def W.of (x : SV) : W := ⟨(hdS (x.al)).iv, (hdS (tlS (x.al))).iv, (hdS (tlS (tlS (x.al)))).bv⟩
def rdW : Rd W := ⟨.agg [.v (.int .u64 0), .v (.int .u64 0), .v (.bool false)], W.of, W.sv, fun _ => rfl⟩


theorem wu (n : Int) : IntKind.u64.wrap n = n % 18446744073709551616 := rfl
theorem wi (n : Int) : IntKind.i64.wrap n = if 9223372036854775808 ≤ n % 18446744073709551616 then n % 18446744073709551616 - 18446744073709551616 else n % 18446744073709551616 := by
  unfold IntKind.wrap
  show (if (true && decide (n % 18446744073709551616 ≥ 9223372036854775808)) = true then _ else _) = _
  simp only [Bool.true_and, decide_eq_true_eq, ge_iff_le]
  rfl
theorem p32 : (2 : Int) ^ min (Int.toNat 32) IntKind.u64.bits = 4294967296 := rfl
theorem p63 : (2 : Int) ^ min (Int.toNat 63) IntKind.u64.bits = 9223372036854775808 := rfl
theorem p1 : (2 : Int) ^ min (Int.toNat 1) IntKind.u64.bits = 2 := rfl
theorem fd32 (a : Int) : a.fdiv 4294967296 = a / 4294967296 := Int.fdiv_eq_ediv_of_nonneg a (by omega)
theorem fd63 (a : Int) : a.fdiv 9223372036854775808 = a / 9223372036854775808 := Int.fdiv_eq_ediv_of_nonneg a (by omega)
theorem bits_or {i A B : Nat} (hb : B < 2 ^ i) (h : A * 2 ^ i + B < 18446744073709551616) : bitsI .or .u64 ((A * 2 ^ i : Nat) : Int) (B : Int) = ((A * 2 ^ i + B : Nat) : Int) := by
  unfold bitsI
  have e1 : (BitVec.ofInt 64 ((A * 2 ^ i : Nat) : Int)).toNat = A * 2 ^ i := by
    rw [BitVec.ofInt_natCast, BitVec.toNat_ofNat, Nat.mod_eq_of_lt (by omega)]
  have e2 : (BitVec.ofInt 64 ((B : Nat) : Int)).toNat = B := by
    rw [BitVec.ofInt_natCast, BitVec.toNat_ofNat, Nat.mod_eq_of_lt (by omega)]
  have e3 : (BitVec.ofInt 64 ((A * 2 ^ i : Nat) : Int) ||| BitVec.ofInt 64 ((B : Nat) : Int)).toNat = A * 2 ^ i + B := by
    rw [BitVec.toNat_or, e1, e2, ← Nat.shiftLeft_eq, Nat.shiftLeft_add_eq_or_of_lt hb]
  show IntKind.u64.wrap ((BitVec.ofInt 64 ((A * 2 ^ i : Nat) : Int) ||| BitVec.ofInt 64 ((B : Nat) : Int)).toNat : Int) = _
  rw [e3, wu]
  omega
theorem bits_and {A i : Nat} (h : A < 18446744073709551616) (hi : i < 64) : bitsI .and .u64 (A : Int) ((2 ^ i - 1 : Nat) : Int) = ((A % 2 ^ i : Nat) : Int) := by
  have hp : 2 ^ i - 1 < 18446744073709551616 := by
    have : 2 ^ i < 2 ^ 64 := Nat.pow_lt_pow_right (by omega) hi
    omega
  unfold bitsI
  have e1 : (BitVec.ofInt 64 (A : Int)).toNat = A := by
    rw [BitVec.ofInt_natCast, BitVec.toNat_ofNat, Nat.mod_eq_of_lt (by omega)]
  have e2 : (BitVec.ofInt 64 ((2 ^ i - 1 : Nat) : Int)).toNat = 2 ^ i - 1 := by
    rw [BitVec.ofInt_natCast, BitVec.toNat_ofNat, Nat.mod_eq_of_lt (by omega)]
  have e3 : (BitVec.ofInt 64 (A : Int) &&& BitVec.ofInt 64 ((2 ^ i - 1 : Nat) : Int)).toNat = A % 2 ^ i := by
    rw [BitVec.toNat_and, e1, e2, Nat.and_two_pow_sub_one_eq_mod]
  show IntKind.u64.wrap ((BitVec.ofInt 64 (A : Int) &&& BitVec.ofInt 64 ((2 ^ i - 1 : Nat) : Int)).toNat : Int) = _
  rw [e3, wu]
  have := Nat.mod_le A (2 ^ i)
  omega
theorem and32 {a : Int} (h0 : 0 ≤ a) (h : a < 18446744073709551616) : bitsI .and .u64 a 4294967295 = a % 4294967296 := by
  obtain ⟨A, rfl⟩ := Int.eq_ofNat_of_zero_le h0
  have := bits_and (A := A) (i := 32) (by omega) (by omega)
  simpa using this
theorem or32 {a b : Int} (ha : 0 ≤ a) (hb : 0 ≤ b) (hb' : b < 4294967296) (ha' : a < 4294967296) : bitsI .or .u64 (a * 4294967296) b = a * 4294967296 + b := by
  obtain ⟨A, rfl⟩ := Int.eq_ofNat_of_zero_le ha
  obtain ⟨B, rfl⟩ := Int.eq_ofNat_of_zero_le hb
  have := bits_or (A := A) (B := B) (i := 32) (by omega) (by omega)
  simpa using this
theorem or1 {a b : Int} (ha : 0 ≤ a) (hb : 0 ≤ b) (hb' : b < 2) (ha' : a < 9223372036854775808) : bitsI .or .u64 (a * 2) b = a * 2 + b := by
  obtain ⟨A, rfl⟩ := Int.eq_ofNat_of_zero_le ha
  obtain ⟨B, rfl⟩ := Int.eq_ofNat_of_zero_le hb
  have := bits_or (A := A) (B := B) (i := 1) (by omega) (by omega)
  simpa using this
def u64 (n : Int) : Prop := 0 ≤ n ∧ n < 18446744073709551616
def Sz.In (s : Sz) : Prop := u64 s.hi ∧ u64 s.lo
def W.In (s : W) : Prop := u64 s.hi ∧ u64 s.lo
def wMade (s : Sz) (n : Bool) : W := ⟨s.hi, s.lo, n && !(decide (s.hi = 0) && decide (s.lo = 0))⟩
def wOf (n : Int) : W := ⟨0, n.natAbs, decide (n < 0)⟩
def wDiff (a b : Int) : W := ⟨0, (a - b).natAbs, decide (a < b)⟩
def szLess (s t : Sz) : Bool := decide (s.hi < t.hi) || decide (s.hi = t.hi) && decide (s.lo < t.lo)
def szTimes (a b : Int) : Sz := ⟨a * b / 18446744073709551616, a * b % 18446744073709551616⟩
def wMul (a b : W) : W := wMade (szTimes a.lo b.lo) (a.neg != b.neg)
def szDiv (s : Sz) (d : Int) : Sz := ⟨(s.hi * 18446744073709551616 + s.lo) / d / 18446744073709551616, (s.hi * 18446744073709551616 + s.lo) / d % 18446744073709551616⟩
def szRem (s : Sz) (d : Int) : Int := (s.hi * 18446744073709551616 + s.lo) % d
def wTrunc (a b : W) : W := wMade (szDiv ⟨a.hi, a.lo⟩ b.lo) (a.neg != b.neg)
set_option maxHeartbeats 2000000 in
set_option maxRecDepth 8000 in
theorem Made_walk : ∀ a, conj ((fun a => []) a) → evFn (C := cx) [] [] 0 noHow Tryd.f47 ((rds2 rdSz rdB).enc a) fun v H _ => resOut ((fun a => (wMade a.1 a.2).sv) a) H v := by
  intro ⟨s, n⟩ _
  repeat' (first | (refine And.intro ?_ ?_) | (intro _))
  all_goals (try (refine Eq.trans ?_ rfl))
  all_goals (try simp only [rds1, rds2, rds3, rdSz, rdW, rdB, rdI, Sz.of, W.of, hdS, tlS, SV.al, SV.iv, SV.bv, constSV, decide_eq_true_eq, decide_eq_false_iff_not] at *)
  all_goals first | rfl | (simp only [wMade]; done) | (simp [wMade, Bool.not_and]; done) | trace_state
noncomputable def conMade : Con cx := walkCon 47 Tryd.call47 (rds2 rdSz rdB) (fun a => []) (fun a => (wMade a.1 a.2).sv) (fun _ => noHow) [] (fun _ => rfl) follows Tryd.func47 (by kernel_rfl) Made_walk

set_option maxHeartbeats 2000000 in
set_option maxRecDepth 8000 in
theorem Of_walk : ∀ a, conj ((fun a => [InR a]) a) → evFn (C := cx) [conMade] [] 0 noHow Tryd.f39 ((rds1 (rdI .i64)).enc a) fun v H _ => resOut ((fun a => (wOf a).sv) a) H v := by
  intro n (hn : InR n)
  unfold InR at hn
  repeat' (first | (refine And.intro ?_ ?_) | (intro _))
  all_goals (try (refine Eq.trans ?_ rfl))
  all_goals (try simp only [rds1, rds2, rds3, rdSz, rdW, rdB, rdI, Sz.of, W.of, hdS, tlS, SV.al, SV.iv, SV.bv, constSV, decide_eq_true_eq, decide_eq_false_iff_not] at *)
  all_goals simp only [wOf, wMade, wu]
  all_goals first | omega | grind | trace_state
noncomputable def conOf : Con cx := walkCon 39 Tryd.call39 (rds1 (rdI .i64)) (fun a => [InR a]) (fun a => (wOf a).sv) (fun _ => noHow) [] (fun _ => rfl) follows Tryd.func39 (by kernel_rfl) Of_walk

set_option maxHeartbeats 2000000 in
set_option maxRecDepth 8000 in
theorem Diff_walk : ∀ a, conj ((fun a => [InR a.1, InR a.2]) a) → evFn (C := cx) [conMade] [] 0 noHow Tryd.f46 ((rds2 (rdI .i64) (rdI .i64)).enc a) fun v H _ => resOut ((fun a => (wDiff a.1 a.2).sv) a) H v := by
  intro ⟨n, m⟩ ⟨hn, hm⟩
  replace hm : InR m := hm
  replace hn : InR n := hn
  unfold InR at hn hm
  repeat' (first | (refine And.intro ?_ ?_) | (intro _))
  all_goals (try (refine Eq.trans ?_ rfl))
  all_goals (try simp only [rds1, rds2, rds3, rdSz, rdW, rdB, rdI, Sz.of, W.of, hdS, tlS, SV.al, SV.iv, SV.bv, constSV, decide_eq_true_eq, decide_eq_false_iff_not] at *)
  all_goals simp only [wDiff, wMade, wu]
  all_goals first | omega | grind | trace_state
noncomputable def conDiff : Con cx := walkCon 46 Tryd.call46 (rds2 (rdI .i64) (rdI .i64)) (fun a => [InR a.1, InR a.2]) (fun a => (wDiff a.1 a.2).sv) (fun _ => noHow) [] (fun _ => rfl) follows Tryd.func46 (by kernel_rfl) Diff_walk

set_option maxHeartbeats 2000000 in
set_option maxRecDepth 8000 in
theorem SLess_walk : ∀ a, conj ((fun a => []) a) → evFn (C := cx) [] [] 0 noHow Tryd.f40 ((rds2 rdSz rdSz).enc a) fun v H _ => resOut ((fun a => .v (.bool (szLess a.1 a.2))) a) H v := by
  intro ⟨s, t⟩ _
  all_goals (try (refine Eq.trans ?_ rfl))
  all_goals (try simp only [rds1, rds2, rds3, rdSz, rdW, rdB, rdI, Sz.of, W.of, hdS, tlS, SV.al, SV.iv, SV.bv, constSV, decide_eq_true_eq, decide_eq_false_iff_not] at *)
  all_goals simp only [szLess]
  all_goals trace_state
noncomputable def conSLess : Con cx := walkCon 40 Tryd.call40 (rds2 rdSz rdSz) (fun a => []) (fun a => .v (.bool (szLess a.1 a.2))) (fun _ => noHow) [] (fun _ => rfl) follows Tryd.func40 (by kernel_rfl) SLess_walk

set_option maxHeartbeats 2000000 in
set_option maxRecDepth 8000 in
theorem Times_walk : ∀ a, conj ((fun a => [u64 a.1, 0 ≤ a.2 ∧ a.2 < 4294967296]) a) → evFn (C := cx) [] [] 0 noHow Tryd.f49 ((rds2 (rdI .u64) (rdI .u64)).enc a) fun v H _ => resOut ((fun a => (szTimes a.1 a.2).sv) a) H v := by
  intro ⟨n, m⟩ ⟨hn, hm⟩
  obtain ⟨hm0, hm⟩ : 0 ≤ m ∧ m < 4294967296 := hm
  obtain ⟨hn0, hn⟩ : 0 ≤ n ∧ n < 18446744073709551616 := hn
  repeat' (first | (refine And.intro ?_ ?_) | (intro _))
  all_goals (try (refine Eq.trans ?_ rfl))
  all_goals (try simp only [rds1, rds2, rds3, rdSz, rdW, rdB, rdI, Sz.of, W.of, hdS, tlS, SV.al, SV.iv, SV.bv, constSV, decide_eq_true_eq, decide_eq_false_iff_not] at *)
  all_goals simp only [szTimes, wu, p32, fd32]
  all_goals
    have ha : 0 ≤ n / 4294967296 ∧ n / 4294967296 < 4294967296 := by omega
    have hb : 0 ≤ n % 4294967296 ∧ n % 4294967296 < 4294967296 := by omega
    have hm' : m % 4294967296 = m := by omega
    have hm2 : m / 4294967296 = 0 := by omega
    have hP0 : 0 ≤ n % 4294967296 * m := Int.mul_nonneg hb.1 hm0
    have hQ0 : 0 ≤ n / 4294967296 * m := Int.mul_nonneg ha.1 hm0
    have hP1 : n % 4294967296 * m ≤ 4294967295 * 4294967295 := Int.mul_le_mul (by omega) (by omega) hm0 (by omega)
    have hQ1 : n / 4294967296 * m ≤ 4294967295 * 4294967295 := Int.mul_le_mul (by omega) (by omega) hm0 (by omega)
    have hs : n * m = n / 4294967296 * m * 4294967296 + n % 4294967296 * m := by
      rw [Int.mul_right_comm, ← Int.add_mul]
      congr 1
      omega
    rw [hs]
    simp only [and32 hn0 hn, and32 hm0 (show m < 18446744073709551616 by omega), hm', hm2, Int.mul_zero]
    generalize n % 4294967296 * m = P at *
    generalize n / 4294967296 * m = Q at *
    clear hs
    rw [show P % 18446744073709551616 = P by omega, show Q % 18446744073709551616 = Q by omega]
    rw [show (Q + P / 4294967296) % 18446744073709551616 = Q + P / 4294967296 by omega]
    rw [and32 (a := Q + P / 4294967296) (by omega) (by omega)]
  · omega
  · rw [and32 (a := P) (by omega) (by omega), show ((Q + P / 4294967296) % 4294967296 + 0 % 18446744073709551616) % 18446744073709551616 * 4294967296 % 18446744073709551616 = (Q + P / 4294967296) % 4294967296 * 4294967296 by omega, or32 (by omega) (by omega) (by omega) (by omega)]
    omega
noncomputable def conTimes : Con cx := walkCon 49 Tryd.call49 (rds2 (rdI .u64) (rdI .u64)) (fun a => [u64 a.1, 0 ≤ a.2 ∧ a.2 < 4294967296]) (fun a => (szTimes a.1 a.2).sv) (fun _ => noHow) [] (fun _ => rfl) follows Tryd.func49 (by kernel_rfl) Times_walk
end Go.Proofs.YtinefblphbicaaaDoor
