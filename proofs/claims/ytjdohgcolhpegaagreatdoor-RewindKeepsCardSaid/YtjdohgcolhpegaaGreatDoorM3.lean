/- Contracts of small functions. Watches, inputs; the contract of Valid. The contract of marked. Wide numbers. -/
import Derived.Test.YtjdohgcolhpegaaGreatDoorM0
import Derived.Test.YtjdohgcolhpegaaGreatDoorG18
namespace Go.Proofs.YtjdohgcolhpegaaGreatDoor.Df
open Go.RowKit

theorem follows : cx.P.follows .mixedOrders = true := by kernel_rfl
/-- A slot, as it stands. -/
def sl (t : Nat) (v : SV) : Nat × Slot := (t, ⟨0, 0, [], v⟩)
def isTick (n : Int) : Bool := decide (0 ≤ n) && decide (n ≤ 1073741824)
def conNaN : Con cx := walkCon (Γ := []) (Fs := []) (d := 0) 119 Tryz.call119 (rds1 (rdI .i64)) (fun _ => []) (fun n => .v (.bool false)) (fun _ => noHow) [] (fun _ => rfl) follows Tryz.func119 (by kernel_rfl)
  fun n _ => by show (_ : Bool) = _; simp
def _root_.Go.Proofs.YtjdohgcolhpegaaGreatDoor.Fam.sorted (f : Fam) : Bool := decide (∀ i, i < f.n - 1 → f.g i ≤ f.g (i + 1))
def sortCut (f : Fam) : Cut := ⟨Int, fun i => -1 ≤ i ∧ i ≤ f.n - 1 ∧ ∀ k : Nat, i ≤ k → k < f.n - 1 → f.g k ≤ f.g (k + 1),
  fun i => ⟨[sl 0 (.rs 1 f.n fun i => [.v (.int .i64 (f.g i))]), sl 3 (.v (.int .i64 i))], [], 0, 0, [], []⟩, fun i => (i + 1).toNat⟩
end Go.Proofs.YtjdohgcolhpegaaGreatDoor.Df
namespace Go.Proofs.YtjdohgcolhpegaaGreatDoor.Df
open Go.RowKit

structure Vec where
  x : Int
  y : Int
def Vec.cells (b : Vec) : List SV := [.v (.int .i64 b.x), .v (.int .i64 b.y)]
def Vec.sv (b : Vec) : SV := .agg b.cells
def Vec.of (x : SV) : Vec := ⟨(hdS (x.al)).iv, (hdS (tlS (x.al))).iv⟩
def rdVec : Rd Vec := ⟨.agg [.v (.int .i64 0), .v (.int .i64 0)], Vec.of, Vec.sv, fun _ => rfl⟩

structure Input where
  client : Int
  seq : Int
  tick : Int
  moveX : Int
  moveY : Int
  fire : Bool
  aimX : Int
  aimY : Int
  seen : Int
  part : Int
def Input.cells (b : Input) : List SV := [.v (.int .i64 b.client), .v (.int .i64 b.seq), .v (.int .i64 b.tick), .v (.int .i64 b.moveX), .v (.int .i64 b.moveY), .v (.bool b.fire), .v (.int .i64 b.aimX), .v (.int .i64 b.aimY), .v (.int .i64 b.seen), .v (.int .i64 b.part)]
def Input.sv (b : Input) : SV := .agg b.cells
def Input.of (x : SV) : Input := ⟨(hdS (x.al)).iv, (hdS (tlS (x.al))).iv, (hdS (tlS (tlS (x.al)))).iv, (hdS (tlS (tlS (tlS (x.al))))).iv, (hdS (tlS (tlS (tlS (tlS (x.al)))))).iv, (hdS (tlS (tlS (tlS (tlS (tlS (x.al))))))).bv, (hdS (tlS (tlS (tlS (tlS (tlS (tlS (x.al)))))))).iv, (hdS (tlS (tlS (tlS (tlS (tlS (tlS (tlS (x.al))))))))).iv, (hdS (tlS (tlS (tlS (tlS (tlS (tlS (tlS (tlS (x.al)))))))))).iv, (hdS (tlS (tlS (tlS (tlS (tlS (tlS (tlS (tlS (tlS (x.al))))))))))).iv⟩
def rdInput : Rd Input := ⟨.agg [.v (.int .i64 0), .v (.int .i64 0), .v (.int .i64 0), .v (.int .i64 0), .v (.int .i64 0), .v (.bool false), .v (.int .i64 0), .v (.int .i64 0), .v (.int .i64 0), .v (.int .i64 0)], Input.of, Input.sv, fun _ => rfl⟩

structure Watch where
  client : Int
  seq : Int
  times : Fam
  counts0 : Int
  counts1 : Int
  counts2 : Int
  counts3 : Int
  counts4 : Int
  counts5 : Int
  counts6 : Int
  points : Int
  since : Int
def Watch.cells (b : Watch) : List SV := [.v (.int .i64 b.client), .v (.int .i64 b.seq), .rs 1 b.times.n fun i => [.v (.int .i64 (b.times.g i))], .v (.int .i64 b.counts0), .v (.int .i64 b.counts1), .v (.int .i64 b.counts2), .v (.int .i64 b.counts3), .v (.int .i64 b.counts4), .v (.int .i64 b.counts5), .v (.int .i64 b.counts6), .v (.int .i64 b.points), .v (.int .i64 b.since)]
def Watch.sv (b : Watch) : SV := .agg b.cells
def Watch.of (x : SV) : Watch := ⟨(hdS (x.al)).iv, (hdS (tlS (x.al))).iv, ⟨(hdS (tlS (tlS (x.al)))).rn, fun i => (hdS ((hdS (tlS (tlS (x.al)))).rf i)).iv⟩, (hdS (tlS (tlS (tlS (x.al))))).iv, (hdS (tlS (tlS (tlS (tlS (x.al)))))).iv, (hdS (tlS (tlS (tlS (tlS (tlS (x.al))))))).iv, (hdS (tlS (tlS (tlS (tlS (tlS (tlS (x.al)))))))).iv, (hdS (tlS (tlS (tlS (tlS (tlS (tlS (tlS (x.al))))))))).iv, (hdS (tlS (tlS (tlS (tlS (tlS (tlS (tlS (tlS (x.al)))))))))).iv, (hdS (tlS (tlS (tlS (tlS (tlS (tlS (tlS (tlS (tlS (x.al))))))))))).iv, (hdS (tlS (tlS (tlS (tlS (tlS (tlS (tlS (tlS (tlS (tlS (x.al)))))))))))).iv, (hdS (tlS (tlS (tlS (tlS (tlS (tlS (tlS (tlS (tlS (tlS (tlS (x.al))))))))))))).iv⟩
def rdWatch : Rd Watch := ⟨.agg [.v (.int .i64 0), .v (.int .i64 0), .rs 1 0 fun _ => [.v (.int .i64 0)], .v (.int .i64 0), .v (.int .i64 0), .v (.int .i64 0), .v (.int .i64 0), .v (.int .i64 0), .v (.int .i64 0), .v (.int .i64 0), .v (.int .i64 0), .v (.int .i64 0)], Watch.of, Watch.sv, fun _ => rfl⟩

theorem dec1I {k k' : IntKind} {n : Int} : (rds1 (rdI k)).dec [.v (.int k' n)] = n := rfl
theorem dec1F {k : IntKind} {n : Nat} {h : Nat → List SV} : (rds1 (rdF k)).dec [.rs 1 n h] = ⟨n, fun i => (hdS (h i)).iv⟩ := rfl
theorem fam_eta {k : IntKind} {f : Fam} : (⟨f.n, fun i => (hdS [SV.v (Value.int k (f.g i))]).iv⟩ : Fam) = f := rfl
theorem Watch.of_sv (w : Watch) : Watch.of w.sv = w := rfl
def Watch.ok (w : Watch) : Bool :=
  decide (1 ≤ w.client) && decide (w.client ≤ 8) && decide ((w.times.n : Int) ≤ 40) && w.times.sorted && decide (0 ≤ w.points) && decide (w.points ≤ 1048576) && isTick w.since &&
    (decide ((w.times.n : Int) ≤ 0) || isTick (w.times.g 0) && isTick (w.times.g ((w.times.n : Int) - 1).toNat)) &&
    decide (0 ≤ w.counts0) && decide (0 ≤ w.counts1) && decide (0 ≤ w.counts2) && decide (0 ≤ w.counts3) && decide (0 ≤ w.counts4) && decide (0 ≤ w.counts5) && decide (0 ≤ w.counts6)
end Go.Proofs.YtjdohgcolhpegaaGreatDoor.Df
namespace Go.Proofs.YtjdohgcolhpegaaGreatDoor.Df
open Go.RowKit

def costOf (f : Int) : Int := if f = 2 then 2 else if f = 3 then 5 else if f = 4 then 10 else if f = 5 then 10 else if f = 6 then 2 else if f = 7 then 20 else 0
def bump (n : Int) : Int := if n < 1048576 then n + 1 else n
def Watch.mark1 (w : Watch) (f : Int) : Watch :=
  ⟨w.client, w.seq, w.times, if f = 1 then bump w.counts0 else w.counts0, if f = 2 then bump w.counts1 else w.counts1, if f = 3 then bump w.counts2 else w.counts2, if f = 4 then bump w.counts3 else w.counts3,
   if f = 5 then bump w.counts4 else w.counts4, if f = 6 then bump w.counts5 else w.counts5, if f = 7 then bump w.counts6 else w.counts6, min (w.points + costOf f) 1048576, w.since⟩
/-- With the first k flags. -/
def Watch.marks (w : Watch) (l : Fam) : Nat → Watch
  | 0 => w
  | k + 1 => (w.marks l k).mark1 (l.g k)
structure Watch.Fit (w : Watch) : Prop where
  c0 : 0 ≤ w.counts0
  c1 : 0 ≤ w.counts1
  c2 : 0 ≤ w.counts2
  c3 : 0 ≤ w.counts3
  c4 : 0 ≤ w.counts4
  c5 : 0 ≤ w.counts5
  c6 : 0 ≤ w.counts6
  p0 : 0 ≤ w.points
  p1 : w.points ≤ 1048576
theorem bump_nn {n : Int} (h : 0 ≤ n) : 0 ≤ bump n := by unfold bump; split <;> omega
theorem cost_nn (f : Int) : 0 ≤ costOf f := by unfold costOf; repeat' split <;> omega
theorem Watch.Fit.mark1 {w : Watch} (h : w.Fit) (f : Int) : (w.mark1 f).Fit := by
  obtain ⟨h0, h1, h2, h3, h4, h5, h6, p0, p1⟩ := h
  have hc := cost_nn f
  constructor <;> simp only [Watch.mark1] <;> first | (split <;> first | exact bump_nn ‹_› | assumption) | omega
theorem Watch.Fit.marks {w : Watch} (h : w.Fit) (l : Fam) : ∀ k, (w.marks l k).Fit
  | 0 => h
  | k + 1 => (Watch.Fit.marks h l k).mark1 _
def flagOk (l : Fam) : Prop := ∀ i, i < l.n → 1 ≤ l.g i ∧ l.g i ≤ 7
def watch0 : Watch := ⟨0, 0, ⟨0, fun _ => 0⟩, 0, 0, 0, 0, 0, 0, 0, 0, 0⟩
def zeroW : List SV := [.il .i64 0, .il .i64 0, .v (.slice none 0 0), .il .i64 0, .il .i64 0, .il .i64 0, .il .i64 0, .il .i64 0, .il .i64 0, .il .i64 0, .il .i64 0, .il .i64 0]
def mkSl (l : Fam) (k : Nat) : List (Nat × Slot) := [sl 2 (.p 0 0), sl 4 (.p 1 0), sl 8 (.rs 1 l.n fun i => [.v (.int .u8 (l.g i))]), sl 9 (.v (.int .i64 l.n)), sl 10 (.v (.int .i64 k))]
end Go.Proofs.YtjdohgcolhpegaaGreatDoor.Df
namespace Go.Proofs.YtjdohgcolhpegaaGreatDoor.Df
open Go.RowKit

structure Sz where
  hi : Int
  lo : Int
def Sz.cells (b : Sz) : List SV := [.v (.int .u64 b.hi), .v (.int .u64 b.lo)]
def Sz.sv (b : Sz) : SV := .agg b.cells
def Sz.of (x : SV) : Sz := ⟨(hdS (x.al)).iv, (hdS (tlS (x.al))).iv⟩
def rdSz : Rd Sz := ⟨.agg [.v (.int .u64 0), .v (.int .u64 0)], Sz.of, Sz.sv, fun _ => rfl⟩

structure W where
  hi : Int
  lo : Int
  neg : Bool
def W.cells (b : W) : List SV := [.v (.int .u64 b.hi), .v (.int .u64 b.lo), .v (.bool b.neg)]
def W.sv (b : W) : SV := .agg b.cells
def W.of (x : SV) : W := ⟨(hdS (x.al)).iv, (hdS (tlS (x.al))).iv, (hdS (tlS (tlS (x.al)))).bv⟩
def rdW : Rd W := ⟨.agg [.v (.int .u64 0), .v (.int .u64 0), .v (.bool false)], W.of, W.sv, fun _ => rfl⟩


theorem wu (n : Int) : IntKind.u64.wrap n = n % 18446744073709551616 := rfl
theorem wi (n : Int) : IntKind.i64.wrap n = if 9223372036854775808 ≤ n % 18446744073709551616 then n % 18446744073709551616 - 18446744073709551616 else n % 18446744073709551616 := by
  unfold IntKind.wrap
  show (if (true && decide (n % 18446744073709551616 ≥ 9223372036854775808)) = true then _ else _) = _
  simp only [Bool.true_and, decide_eq_true_eq, ge_iff_le]
  rfl
theorem p32 : (2 : Int) ^ min (Int.toNat 32) IntKind.u64.bits = 4294967296 := rfl
theorem p63 : (2 : Int) ^ min (Int.toNat 63) IntKind.u64.bits = 9223372036854775808 := rfl
theorem p1 : (2 : Int) ^ min (Int.toNat 1) IntKind.u64.bits = 2 := rfl
theorem fd32 (a : Int) : a.fdiv 4294967296 = a / 4294967296 := Int.fdiv_eq_ediv_of_nonneg a (by omega)
theorem fd63 (a : Int) : a.fdiv 9223372036854775808 = a / 9223372036854775808 := Int.fdiv_eq_ediv_of_nonneg a (by omega)
theorem bits_or {i A B : Nat} (hb : B < 2 ^ i) (h : A * 2 ^ i + B < 18446744073709551616) : bitsI .or .u64 ((A * 2 ^ i : Nat) : Int) (B : Int) = ((A * 2 ^ i + B : Nat) : Int) := by
  unfold bitsI
  have e1 : (BitVec.ofInt 64 ((A * 2 ^ i : Nat) : Int)).toNat = A * 2 ^ i := by
    rw [BitVec.ofInt_natCast, BitVec.toNat_ofNat, Nat.mod_eq_of_lt (by omega)]
  have e2 : (BitVec.ofInt 64 ((B : Nat) : Int)).toNat = B := by
    rw [BitVec.ofInt_natCast, BitVec.toNat_ofNat, Nat.mod_eq_of_lt (by omega)]
  have e3 : (BitVec.ofInt 64 ((A * 2 ^ i : Nat) : Int) ||| BitVec.ofInt 64 ((B : Nat) : Int)).toNat = A * 2 ^ i + B := by
    rw [BitVec.toNat_or, e1, e2, ← Nat.shiftLeft_eq, Nat.shiftLeft_add_eq_or_of_lt hb]
  show IntKind.u64.wrap ((BitVec.ofInt 64 ((A * 2 ^ i : Nat) : Int) ||| BitVec.ofInt 64 ((B : Nat) : Int)).toNat : Int) = _
  rw [e3, wu]
  omega
theorem bits_and {A i : Nat} (h : A < 18446744073709551616) (hi : i < 64) : bitsI .and .u64 (A : Int) ((2 ^ i - 1 : Nat) : Int) = ((A % 2 ^ i : Nat) : Int) := by
  have hp : 2 ^ i - 1 < 18446744073709551616 := by
    have : 2 ^ i < 2 ^ 64 := Nat.pow_lt_pow_right (by omega) hi
    omega
  unfold bitsI
  have e1 : (BitVec.ofInt 64 (A : Int)).toNat = A := by
    rw [BitVec.ofInt_natCast, BitVec.toNat_ofNat, Nat.mod_eq_of_lt (by omega)]
  have e2 : (BitVec.ofInt 64 ((2 ^ i - 1 : Nat) : Int)).toNat = 2 ^ i - 1 := by
    rw [BitVec.ofInt_natCast, BitVec.toNat_ofNat, Nat.mod_eq_of_lt (by omega)]
  have e3 : (BitVec.ofInt 64 (A : Int) &&& BitVec.ofInt 64 ((2 ^ i - 1 : Nat) : Int)).toNat = A % 2 ^ i := by
    rw [BitVec.toNat_and, e1, e2, Nat.and_two_pow_sub_one_eq_mod]
  show IntKind.u64.wrap ((BitVec.ofInt 64 (A : Int) &&& BitVec.ofInt 64 ((2 ^ i - 1 : Nat) : Int)).toNat : Int) = _
  rw [e3, wu]
  have := Nat.mod_le A (2 ^ i)
  omega
theorem and32 {a : Int} (h0 : 0 ≤ a) (h : a < 18446744073709551616) : bitsI .and .u64 a 4294967295 = a % 4294967296 := by
  obtain ⟨A, rfl⟩ := Int.eq_ofNat_of_zero_le h0
  have := bits_and (A := A) (i := 32) (by omega) (by omega)
  simpa using this
theorem or32 {a b : Int} (ha : 0 ≤ a) (hb : 0 ≤ b) (hb' : b < 4294967296) (ha' : a < 4294967296) : bitsI .or .u64 (a * 4294967296) b = a * 4294967296 + b := by
  obtain ⟨A, rfl⟩ := Int.eq_ofNat_of_zero_le ha
  obtain ⟨B, rfl⟩ := Int.eq_ofNat_of_zero_le hb
  have := bits_or (A := A) (B := B) (i := 32) (by omega) (by omega)
  simpa using this
theorem or1 {a b : Int} (ha : 0 ≤ a) (hb : 0 ≤ b) (hb' : b < 2) (ha' : a < 9223372036854775808) : bitsI .or .u64 (a * 2) b = a * 2 + b := by
  obtain ⟨A, rfl⟩ := Int.eq_ofNat_of_zero_le ha
  obtain ⟨B, rfl⟩ := Int.eq_ofNat_of_zero_le hb
  have := bits_or (A := A) (B := B) (i := 1) (by omega) (by omega)
  simpa using this
def u64 (n : Int) : Prop := 0 ≤ n ∧ n < 18446744073709551616
def Sz.In (s : Sz) : Prop := u64 s.hi ∧ u64 s.lo
def W.In (s : W) : Prop := u64 s.hi ∧ u64 s.lo
def wMade (s : Sz) (n : Bool) : W := ⟨s.hi, s.lo, n && !(decide (s.hi = 0) && decide (s.lo = 0))⟩
def wOf (n : Int) : W := ⟨0, n.natAbs, decide (n < 0)⟩
def wDiff (a b : Int) : W := ⟨0, (a - b).natAbs, decide (a < b)⟩
def szLess (s t : Sz) : Bool := decide (s.hi < t.hi) || decide (s.hi = t.hi) && decide (s.lo < t.lo)
def szTimes (a b : Int) : Sz := ⟨a * b / 18446744073709551616, a * b % 18446744073709551616⟩
def wMul (a b : W) : W := wMade (szTimes a.lo b.lo) (a.neg != b.neg)
def szDiv (s : Sz) (d : Int) : Sz := ⟨(s.hi * 18446744073709551616 + s.lo) / d / 18446744073709551616, (s.hi * 18446744073709551616 + s.lo) / d % 18446744073709551616⟩
def szRem (s : Sz) (d : Int) : Int := (s.hi * 18446744073709551616 + s.lo) % d
def wTrunc (a b : W) : W := wMade (szDiv ⟨a.hi, a.lo⟩ b.lo) (a.neg != b.neg)
set_option maxHeartbeats 2000000 in
set_option maxRecDepth 8000 in
theorem Made_walk : ∀ a, conj ((fun a => []) a) → evFn (C := cx) [] [] 0 noHow Tryz.f126 ((rds2 rdSz rdB).enc a) fun v H _ => resOut ((fun a => (wMade a.1 a.2).sv) a) H v := by
  intro ⟨s, n⟩ _
  repeat' (first | (refine And.intro ?_ ?_) | (intro _))
  all_goals (try (refine Eq.trans ?_ rfl))
  all_goals (try simp only [rds1, rds2, rds3, rdSz, rdW, rdB, rdI, Sz.of, W.of, hdS, tlS, SV.al, SV.iv, SV.bv, constSV, decide_eq_true_eq, decide_eq_false_iff_not] at *)
  all_goals first | rfl | (simp only [wMade]; done) | (simp [wMade, Bool.not_and]; done) | trace_state
noncomputable def conMade : Con cx := walkCon 126 Tryz.call126 (rds2 rdSz rdB) (fun a => []) (fun a => (wMade a.1 a.2).sv) (fun _ => noHow) [] (fun _ => rfl) follows Tryz.func126 (by kernel_rfl) Made_walk

set_option maxHeartbeats 2000000 in
set_option maxRecDepth 8000 in
theorem Of_walk : ∀ a, conj ((fun a => [InR a]) a) → evFn (C := cx) [conMade] [] 0 noHow Tryz.f113 ((rds1 (rdI .i64)).enc a) fun v H _ => resOut ((fun a => (wOf a).sv) a) H v := by
  intro n (hn : InR n)
  unfold InR at hn
  repeat' (first | (refine And.intro ?_ ?_) | (intro _))
  all_goals (try (refine Eq.trans ?_ rfl))
  all_goals (try simp only [rds1, rds2, rds3, rdSz, rdW, rdB, rdI, Sz.of, W.of, hdS, tlS, SV.al, SV.iv, SV.bv, constSV, decide_eq_true_eq, decide_eq_false_iff_not] at *)
  all_goals simp only [wOf, wMade, wu]
  all_goals first | omega | grind | trace_state
noncomputable def conOf : Con cx := walkCon 113 Tryz.call113 (rds1 (rdI .i64)) (fun a => [InR a]) (fun a => (wOf a).sv) (fun _ => noHow) [] (fun _ => rfl) follows Tryz.func113 (by kernel_rfl) Of_walk

set_option maxHeartbeats 2000000 in
set_option maxRecDepth 8000 in
theorem Diff_walk : ∀ a, conj ((fun a => [InR a.1, InR a.2]) a) → evFn (C := cx) [conMade] [] 0 noHow Tryz.f112 ((rds2 (rdI .i64) (rdI .i64)).enc a) fun v H _ => resOut ((fun a => (wDiff a.1 a.2).sv) a) H v := by
  intro ⟨n, m⟩ ⟨hn, hm⟩
  replace hm : InR m := hm
  replace hn : InR n := hn
  unfold InR at hn hm
  repeat' (first | (refine And.intro ?_ ?_) | (intro _))
  all_goals (try (refine Eq.trans ?_ rfl))
  all_goals (try simp only [rds1, rds2, rds3, rdSz, rdW, rdB, rdI, Sz.of, W.of, hdS, tlS, SV.al, SV.iv, SV.bv, constSV, decide_eq_true_eq, decide_eq_false_iff_not] at *)
  all_goals simp only [wDiff, wMade, wu]
  all_goals first | omega | grind | trace_state
noncomputable def conDiff : Con cx := walkCon 112 Tryz.call112 (rds2 (rdI .i64) (rdI .i64)) (fun a => [InR a.1, InR a.2]) (fun a => (wDiff a.1 a.2).sv) (fun _ => noHow) [] (fun _ => rfl) follows Tryz.func112 (by kernel_rfl) Diff_walk

set_option maxHeartbeats 2000000 in
set_option maxRecDepth 8000 in
theorem SLess_walk : ∀ a, conj ((fun a => []) a) → evFn (C := cx) [] [] 0 noHow Tryz.f129 ((rds2 rdSz rdSz).enc a) fun v H _ => resOut ((fun a => .v (.bool (szLess a.1 a.2))) a) H v := by
  intro ⟨s, t⟩ _
  all_goals (try (refine Eq.trans ?_ rfl))
  all_goals (try simp only [rds1, rds2, rds3, rdSz, rdW, rdB, rdI, Sz.of, W.of, hdS, tlS, SV.al, SV.iv, SV.bv, constSV, decide_eq_true_eq, decide_eq_false_iff_not] at *)
  all_goals simp only [szLess]
  all_goals trace_state
noncomputable def conSLess : Con cx := walkCon 129 Tryz.call129 (rds2 rdSz rdSz) (fun a => []) (fun a => .v (.bool (szLess a.1 a.2))) (fun _ => noHow) [] (fun _ => rfl) follows Tryz.func129 (by kernel_rfl) SLess_walk

set_option maxHeartbeats 2000000 in
set_option maxRecDepth 8000 in
theorem Times_walk : ∀ a, conj ((fun a => [u64 a.1, 0 ≤ a.2 ∧ a.2 < 4294967296]) a) → evFn (C := cx) [] [] 0 noHow Tryz.f128 ((rds2 (rdI .u64) (rdI .u64)).enc a) fun v H _ => resOut ((fun a => (szTimes a.1 a.2).sv) a) H v := by
  intro ⟨n, m⟩ ⟨hn, hm⟩
  obtain ⟨hm0, hm⟩ : 0 ≤ m ∧ m < 4294967296 := hm
  obtain ⟨hn0, hn⟩ : 0 ≤ n ∧ n < 18446744073709551616 := hn
  repeat' (first | (refine And.intro ?_ ?_) | (intro _))
  all_goals (try (refine Eq.trans ?_ rfl))
  all_goals (try simp only [rds1, rds2, rds3, rdSz, rdW, rdB, rdI, Sz.of, W.of, hdS, tlS, SV.al, SV.iv, SV.bv, constSV, decide_eq_true_eq, decide_eq_false_iff_not] at *)
  all_goals simp only [szTimes, wu, p32, fd32]
  all_goals
    have ha : 0 ≤ n / 4294967296 ∧ n / 4294967296 < 4294967296 := by omega
    have hb : 0 ≤ n % 4294967296 ∧ n % 4294967296 < 4294967296 := by omega
    have hm' : m % 4294967296 = m := by omega
    have hm2 : m / 4294967296 = 0 := by omega
    have hP0 : 0 ≤ n % 4294967296 * m := Int.mul_nonneg hb.1 hm0
    have hQ0 : 0 ≤ n / 4294967296 * m := Int.mul_nonneg ha.1 hm0
    have hP1 : n % 4294967296 * m ≤ 4294967295 * 4294967295 := Int.mul_le_mul (by omega) (by omega) hm0 (by omega)
    have hQ1 : n / 4294967296 * m ≤ 4294967295 * 4294967295 := Int.mul_le_mul (by omega) (by omega) hm0 (by omega)
    have hs : n * m = n / 4294967296 * m * 4294967296 + n % 4294967296 * m := by
      rw [Int.mul_right_comm, ← Int.add_mul]
      congr 1
      omega
    rw [hs]
    simp only [and32 hn0 hn, and32 hm0 (show m < 18446744073709551616 by omega), hm', hm2, Int.mul_zero]
    generalize n % 4294967296 * m = P at *
    generalize n / 4294967296 * m = Q at *
    clear hs
    rw [show P % 18446744073709551616 = P by omega, show Q % 18446744073709551616 = Q by omega]
    rw [show (Q + P / 4294967296) % 18446744073709551616 = Q + P / 4294967296 by omega]
    rw [and32 (a := Q + P / 4294967296) (by omega) (by omega)]
  · omega
  · rw [and32 (a := P) (by omega) (by omega), show ((Q + P / 4294967296) % 4294967296 + 0 % 18446744073709551616) % 18446744073709551616 * 4294967296 % 18446744073709551616 = (Q + P / 4294967296) % 4294967296 * 4294967296 by omega, or32 (by omega) (by omega) (by omega) (by omega)]
    omega
noncomputable def conTimes : Con cx := walkCon 128 Tryz.call128 (rds2 (rdI .u64) (rdI .u64)) (fun a => [u64 a.1, 0 ≤ a.2 ∧ a.2 < 4294967296]) (fun a => (szTimes a.1 a.2).sv) (fun _ => noHow) [] (fun _ => rfl) follows Tryz.func128 (by kernel_rfl) Times_walk
end Go.Proofs.YtjdohgcolhpegaaGreatDoor.Df
