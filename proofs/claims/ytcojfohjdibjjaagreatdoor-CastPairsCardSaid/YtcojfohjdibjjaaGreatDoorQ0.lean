/- Structures; contracts of small functions of cast. compare, root, order. The contract of order. -/
import Derived.Test.YtcojfohjdibjjaaGreatDoorP0
namespace Go.Proofs.YtcojfohjdibjjaaGreatDoor
open Go.RowKit

theorem follows : cx.P.follows .mixedOrders = true := by kernel_rfl
/-- A slot, as it stands. -/
def sl (t : Nat) (v : SV) : Nat × Slot := (t, ⟨0, 0, [], v⟩)
structure Vec where
  x : Int
  y : Int
def Vec.cells (b : Vec) : List SV := [.v (.int .i64 b.x), .v (.int .i64 b.y)]
def Vec.sv (b : Vec) : SV := .agg b.cells
def Vec.of (x : SV) : Vec := ⟨(hdS (x.al)).iv, (hdS (tlS (x.al))).iv⟩
def rdVec : Rd Vec := ⟨.agg [.v (.int .i64 0), .v (.int .i64 0)], Vec.of, Vec.sv, fun _ => rfl⟩

structure Body where
  iD : Int
  posX : Int
  posY : Int
  velX : Int
  velY : Int
  w : Int
  h : Int
  round : Bool
  fixed : Bool
def Body.cells (b : Body) : List SV := [.v (.int .i64 b.iD), .v (.int .i64 b.posX), .v (.int .i64 b.posY), .v (.int .i64 b.velX), .v (.int .i64 b.velY), .v (.int .i64 b.w), .v (.int .i64 b.h), .v (.bool b.round), .v (.bool b.fixed)]
def Body.sv (b : Body) : SV := .agg b.cells
def Body.of (x : SV) : Body := ⟨(hdS (x.al)).iv, (hdS (tlS (x.al))).iv, (hdS (tlS (tlS (x.al)))).iv, (hdS (tlS (tlS (tlS (x.al))))).iv, (hdS (tlS (tlS (tlS (tlS (x.al)))))).iv, (hdS (tlS (tlS (tlS (tlS (tlS (x.al))))))).iv, (hdS (tlS (tlS (tlS (tlS (tlS (tlS (x.al)))))))).iv, (hdS (tlS (tlS (tlS (tlS (tlS (tlS (tlS (x.al))))))))).bv, (hdS (tlS (tlS (tlS (tlS (tlS (tlS (tlS (tlS (x.al)))))))))).bv⟩
def rdBody : Rd Body := ⟨.agg [.v (.int .i64 0), .v (.int .i64 0), .v (.int .i64 0), .v (.int .i64 0), .v (.int .i64 0), .v (.int .i64 0), .v (.int .i64 0), .v (.bool false), .v (.bool false)], Body.of, Body.sv, fun _ => rfl⟩

def Plc.cells (b : Plc) : List SV := [.v (.int .i64 b.n), .v (.int .i64 b.s), .v (.int .i64 b.m)]
def Plc.sv (b : Plc) : SV := .agg b.cells
def Plc.of (x : SV) : Plc := ⟨(hdS (x.al)).iv, (hdS (tlS (x.al))).iv, (hdS (tlS (tlS (x.al)))).iv⟩
def rdPlc : Rd Plc := ⟨.agg [.v (.int .i64 0), .v (.int .i64 0), .v (.int .i64 0)], Plc.of, Plc.sv, fun _ => rfl⟩

structure Wd where
  hi : Int
  lo : Int
def Wd.cells (b : Wd) : List SV := [.v (.int .u64 b.hi), .v (.int .u64 b.lo)]
def Wd.sv (b : Wd) : SV := .agg b.cells
def Wd.of (x : SV) : Wd := ⟨(hdS (x.al)).iv, (hdS (tlS (x.al))).iv⟩
def rdWd : Rd Wd := ⟨.agg [.v (.int .u64 0), .v (.int .u64 0)], Wd.of, Wd.sv, fun _ => rfl⟩

structure Area where
  lowX : Int
  lowY : Int
  highX : Int
  highY : Int
def Area.cells (b : Area) : List SV := [.v (.int .i64 b.lowX), .v (.int .i64 b.lowY), .v (.int .i64 b.highX), .v (.int .i64 b.highY)]
def Area.sv (b : Area) : SV := .agg b.cells
def Area.of (x : SV) : Area := ⟨(hdS (x.al)).iv, (hdS (tlS (x.al))).iv, (hdS (tlS (tlS (x.al)))).iv, (hdS (tlS (tlS (tlS (x.al))))).iv⟩
def rdArea : Rd Area := ⟨.agg [.v (.int .i64 0), .v (.int .i64 0), .v (.int .i64 0), .v (.int .i64 0)], Area.of, Area.sv, fun _ => rfl⟩

structure Form where
  x : Int
  y : Int
  w : Int
  h : Int
  round : Bool
def Form.cells (b : Form) : List SV := [.v (.int .i8 b.x), .v (.int .i8 b.y), .v (.int .u8 b.w), .v (.int .u8 b.h), .v (.bool b.round)]
def Form.sv (b : Form) : SV := .agg b.cells
def Form.of (x : SV) : Form := ⟨(hdS (x.al)).iv, (hdS (tlS (x.al))).iv, (hdS (tlS (tlS (x.al)))).iv, (hdS (tlS (tlS (tlS (x.al))))).iv, (hdS (tlS (tlS (tlS (tlS (x.al)))))).bv⟩
def rdForm : Rd Form := ⟨.agg [.v (.int .i8 0), .v (.int .i8 0), .v (.int .u8 0), .v (.int .u8 0), .v (.bool false)], Form.of, Form.sv, fun _ => rfl⟩


theorem wu (n : Int) : IntKind.u64.wrap n = n % 18446744073709551616 := rfl
theorem p32 : (2 : Int) ^ min (Int.toNat 32) IntKind.u64.bits = 4294967296 := rfl
theorem fd32 (a : Int) : a.fdiv 4294967296 = a / 4294967296 := Int.fdiv_eq_ediv_of_nonneg a (by omega)
theorem bits_and {A i : Nat} (h : A < 18446744073709551616) (hi : i < 64) : bitsI .and .u64 (A : Int) ((2 ^ i - 1 : Nat) : Int) = ((A % 2 ^ i : Nat) : Int) := by
  have hp : 2 ^ i - 1 < 18446744073709551616 := by
    have : 2 ^ i < 2 ^ 64 := Nat.pow_lt_pow_right (by omega) hi
    omega
  unfold bitsI
  have e1 : (BitVec.ofInt 64 (A : Int)).toNat = A := by
    rw [BitVec.ofInt_natCast, BitVec.toNat_ofNat, Nat.mod_eq_of_lt (by omega)]
  have e2 : (BitVec.ofInt 64 ((2 ^ i - 1 : Nat) : Int)).toNat = 2 ^ i - 1 := by
    rw [BitVec.ofInt_natCast, BitVec.toNat_ofNat, Nat.mod_eq_of_lt (by omega)]
  have e3 : (BitVec.ofInt 64 (A : Int) &&& BitVec.ofInt 64 ((2 ^ i - 1 : Nat) : Int)).toNat = A % 2 ^ i := by
    rw [BitVec.toNat_and, e1, e2, Nat.and_two_pow_sub_one_eq_mod]
  show IntKind.u64.wrap ((BitVec.ofInt 64 (A : Int) &&& BitVec.ofInt 64 ((2 ^ i - 1 : Nat) : Int)).toNat : Int) = _
  rw [e3, wu]
  have := Nat.mod_le A (2 ^ i)
  omega
theorem and32 {a : Int} (h0 : 0 ≤ a) (h : a < 18446744073709551616) : bitsI .and .u64 a 4294967295 = a % 4294967296 := by
  obtain ⟨A, rfl⟩ := Int.eq_ofNat_of_zero_le h0
  have := bits_and (A := A) (i := 32) (by omega) (by omega)
  simpa using this
def conNaN : Con cx := walkCon (Γ := []) (Fs := []) (d := 0) 68 Tryz.call68 (rds1 (rdI .i64)) (fun _ => []) (fun n => .bl false) (fun _ => noHow) [] (fun _ => rfl) follows Tryz.func68 (by kernel_rfl)
  fun n _ => by show (_ : Bool) = _; simp
def conNaNu : Con cx := walkCon (Γ := []) (Fs := []) (d := 0) 89 Tryz.call89 (rds1 (rdI .u64)) (fun _ => []) (fun n => .bl false) (fun _ => noHow) [] (fun _ => rfl) follows Tryz.func89 (by kernel_rfl)
  fun n _ => by show (_ : Bool) = _; simp
set_option maxHeartbeats 2000000 in
set_option maxRecDepth 8000 in
theorem Cmp_walk : ∀ a, conj ((fun _ => []) a) → evFn (C := cx) [conNaN] [] 0 noHow Tryz.f46 (((rds2 (rdI .i64) (rdI .i64))).enc a) fun v H _ => resOut ((fun a => .v (.int .i64 (cmpI a.1 a.2))) a) H v := by
  intro ⟨x, y⟩ _
  repeat' (first | (refine And.intro ?_ ?_) | (intro _))
  all_goals (simp only [rds1, rds2, rds3, rdI, hdS, tlS, SV.iv, constSV, decide_eq_true_eq, decide_eq_false_iff_not] at *)
  all_goals (refine Eq.trans (a := cmpI x y) ?_ rfl; unfold cmpI; split <;> (try split) <;> first | rfl | omega)
noncomputable def conCmp : Con cx := walkCon 46 Tryz.call46 (rds2 (rdI .i64) (rdI .i64)) (fun _ => []) (fun a => .v (.int .i64 (cmpI a.1 a.2))) (fun _ => noHow) [] (fun _ => rfl) follows Tryz.func46 (by kernel_rfl) Cmp_walk
set_option maxHeartbeats 2000000 in
set_option maxRecDepth 8000 in
theorem Cmpu_walk : ∀ a, conj ((fun _ => []) a) → evFn (C := cx) [conNaNu] [] 0 noHow Tryz.f70 (((rds2 (rdI .u64) (rdI .u64))).enc a) fun v H _ => resOut ((fun a => .v (.int .i64 (cmpI a.1 a.2))) a) H v := by
  intro ⟨x, y⟩ _
  repeat' (first | (refine And.intro ?_ ?_) | (intro _))
  all_goals (simp only [rds1, rds2, rds3, rdI, hdS, tlS, SV.iv, constSV, decide_eq_true_eq, decide_eq_false_iff_not] at *)
  all_goals (refine Eq.trans (a := cmpI x y) ?_ rfl; unfold cmpI; split <;> (try split) <;> first | rfl | omega)
noncomputable def conCmpu : Con cx := walkCon 70 Tryz.call70 (rds2 (rdI .u64) (rdI .u64)) (fun _ => []) (fun a => .v (.int .i64 (cmpI a.1 a.2))) (fun _ => noHow) [] (fun _ => rfl) follows Tryz.func70 (by kernel_rfl) Cmpu_walk
def Wd.num (w : Wd) : Int := w.hi * 18446744073709551616 + w.lo
def Wd.In (w : Wd) : Prop := (0 ≤ w.hi ∧ w.hi < 18446744073709551616) ∧ 0 ≤ w.lo ∧ w.lo < 18446744073709551616
def mulW (a b : Int) : Wd := ⟨a * b / 18446744073709551616, a * b % 18446744073709551616⟩
theorem mulW_in {a b : Int} (ha : 0 ≤ a ∧ a ≤ 9223372036854775807) (hb : 0 ≤ b ∧ b ≤ 9223372036854775807) : (mulW a b).In := by
  have h1 := Int.mul_nonneg ha.1 hb.1
  have h2 : a * b ≤ 9223372036854775807 * 9223372036854775807 := Int.mul_le_mul ha.2 hb.2 hb.1 (by omega)
  unfold mulW Wd.In
  simp only
  omega
theorem mulW_num (a b : Int) : (mulW a b).num = a * b := by
  unfold mulW Wd.num
  simp only
  omega
set_option maxHeartbeats 2000000 in
set_option maxRecDepth 8000 in
theorem Mul_walk : ∀ a, conj ((fun a => [0 ≤ a.1 ∧ a.1 ≤ 9223372036854775807, 0 ≤ a.2 ∧ a.2 ≤ 9223372036854775807]) a) → evFn (C := cx) [] [] 0 noHow Tryz.f49 (((rds2 (rdI .i64) (rdI .i64))).enc a) fun v H _ => resOut ((fun a => (mulW a.1 a.2).sv) a) H v := by
  intro ⟨n, m⟩ ⟨hn, hm⟩
  obtain ⟨hm0, hm⟩ : 0 ≤ m ∧ m ≤ 9223372036854775807 := hm
  obtain ⟨hn0, hn⟩ : 0 ≤ n ∧ n ≤ 9223372036854775807 := hn
  repeat' (first | (refine And.intro ?_ ?_) | (intro _))
  all_goals (try (refine Eq.trans ?_ rfl))
  all_goals (try simp only [rds1, rds2, rds3, rdWd, rdI, Wd.of, hdS, tlS, SV.al, SV.iv, constSV, wu, p32, fd32] at *)
  all_goals (try simp only [mulW])
  all_goals (rw [show n % 18446744073709551616 = n by omega, show m % 18446744073709551616 = m by omega])
  have ha : 0 ≤ n / 4294967296 ∧ n / 4294967296 < 2147483648 := by omega
  have hb : 0 ≤ n % 4294967296 ∧ n % 4294967296 < 4294967296 := by omega
  have hc : 0 ≤ m / 4294967296 ∧ m / 4294967296 < 2147483648 := by omega
  have hd : 0 ≤ m % 4294967296 ∧ m % 4294967296 < 4294967296 := by omega
  have e1 : n = n / 4294967296 * 4294967296 + n % 4294967296 := by omega
  have e2 : m = m / 4294967296 * 4294967296 + m % 4294967296 := by omega
  have hn' : n < 18446744073709551616 := by omega
  have hm' : m < 18446744073709551616 := by omega
  simp only [and32 hn0 hn', and32 hm0 hm']
  generalize n / 4294967296 = a at *
  generalize n % 4294967296 = b at *
  generalize m / 4294967296 = c at *
  generalize m % 4294967296 = d at *
  have hs : n * m = a * c * 18446744073709551616 + (a * d + b * c) * 4294967296 + b * d := by
    rw [e1, e2]; grind
  rw [hs]
  have p1 : 0 ≤ b * d ∧ b * d ≤ 4294967295 * 4294967295 := ⟨Int.mul_nonneg hb.1 hd.1, Int.mul_le_mul (by omega) (by omega) hd.1 (by omega)⟩
  have p2 : 0 ≤ a * d ∧ a * d ≤ 2147483647 * 4294967295 := ⟨Int.mul_nonneg ha.1 hd.1, Int.mul_le_mul (by omega) (by omega) hd.1 (by omega)⟩
  have p3 : 0 ≤ b * c ∧ b * c ≤ 4294967295 * 2147483647 := ⟨Int.mul_nonneg hb.1 hc.1, Int.mul_le_mul (by omega) (by omega) hc.1 (by omega)⟩
  have p4 : 0 ≤ a * c ∧ a * c ≤ 2147483647 * 2147483647 := ⟨Int.mul_nonneg ha.1 hc.1, Int.mul_le_mul (by omega) (by omega) hc.1 (by omega)⟩
  clear hs e1 e2
  generalize b * d = P at *
  generalize a * d = Q at *
  generalize b * c = R at *
  generalize a * c = S at *
  rw [show P % 18446744073709551616 = P by omega, show Q % 18446744073709551616 = Q by omega, show R % 18446744073709551616 = R by omega, show S % 18446744073709551616 = S by omega]
  rw [show (Q + P / 4294967296) % 18446744073709551616 = Q + P / 4294967296 by omega]
  have q1 : 0 ≤ Q + P / 4294967296 := by omega
  have q2 : Q + P / 4294967296 < 18446744073709551616 := by omega
  simp only [and32 q1 q2]
  omega
noncomputable def conMul : Con cx := walkCon 49 Tryz.call49 (rds2 (rdI .i64) (rdI .i64)) (fun a => [0 ≤ a.1 ∧ a.1 ≤ 9223372036854775807, 0 ≤ a.2 ∧ a.2 ≤ 9223372036854775807]) (fun a => (mulW a.1 a.2).sv) (fun _ => noHow) [] (fun _ => rfl) follows Tryz.func49 (by kernel_rfl) Mul_walk
end Go.Proofs.YtcojfohjdibjjaaGreatDoor
namespace Go.Proofs.YtcojfohjdibjjaaGreatDoor
open Go.RowKit

/-- The first that is not 0, of r numbers from the k-th on. -/
def orN (g : Nat → Int) : Nat → Nat → Int
  | _, 0 => 0
  | k, r + 1 => if g k = 0 then orN g (k + 1) r else g k
def orCut (f : Fam) : Cut := ⟨Nat, fun k => k ≤ f.n ∧ orN f.g 0 f.n = orN f.g k (f.n - k),
  fun k => ⟨[sl 3 (.v (.int .i64 0)), sl 6 (.rs 1 f.n fun i => [.v (.int .i64 (f.g i))]), sl 7 (.v (.int .i64 f.n)), sl 8 (.v (.int .i64 k))], [], 0, 0, [], []⟩, fun k => f.n - k⟩
set_option maxHeartbeats 2000000 in
set_option maxRecDepth 8000 in
theorem Or_walk : ∀ a, conj ((fun f => [(f.n : Int) ≤ 1000000]) a) → evFn (C := cx) [] [] 0 ⟨[], [], [3], 0⟩ Tryz.f69 (((rds1 (rdF .i64))).enc a) fun v H _ => resOut ((fun f => .v (.int .i64 (orN f.g 0 f.n))) a) H v := by
  intro f (hn : (f.n : Int) ≤ 1000000)
  refine Exists.intro (orCut f) ?_
  refine And.intro ?_ ?_
  · refine ⟨(0 : Nat), [], [], trivial, ⟨Nat.zero_le _, rfl⟩, ?_⟩
    repeat' (first | (refine And.intro ?_ ?_) | (intro _) | exact rfl)
  refine fun (k : Nat) (hk : k ≤ f.n ∧ orN f.g 0 f.n = orN f.g k (f.n - k)) => ?_
  obtain ⟨h1, h2⟩ := hk
  refine And.intro (fun hb => ?_) (fun hb => ?_)
  · have hb : (k : Int) < f.n := of_decide_eq_true hb
    refine And.intro ⟨by omega, by omega⟩ ?_
    have e : orN f.g k (f.n - k) = if f.g k = 0 then orN f.g (k + 1) (f.n - (k + 1)) else f.g k := by
      rw [show f.n - k = (f.n - (k + 1)) + 1 by omega]; rfl
    refine And.intro (fun hc => ?_) (fun hc => ?_)
    · have hc : ¬ f.g k = 0 := by simpa using hc
      refine Eq.trans (a := orN f.g 0 f.n) ?_ rfl
      rw [h2, e, if_neg hc]
      rfl
    · have hc : f.g k = 0 := by simpa using hc
      refine And.intro (by constructor <;> omega) ?_
      refine ⟨k + 1, [], [], (by show f.n - (k + 1) < f.n - k; omega), ⟨by omega, by rw [h2, e, if_pos hc]⟩, ?_⟩
      repeat' (first | (refine And.intro ?_ ?_) | (intro _) | exact rfl)
  · have hb : ¬ (k : Int) < f.n := of_decide_eq_false hb
    refine Eq.trans (a := orN f.g 0 f.n) ?_ rfl
    rw [h2, show f.n - k = 0 by omega]
    rfl
noncomputable def conOr : Con cx := walkCon 69 Tryz.call69 (rds1 (rdF .i64)) (fun f => [(f.n : Int) ≤ 1000000]) (fun f => .v (.int .i64 (orN f.g 0 f.n))) (fun _ => ⟨[], [], [3], 0⟩) [] (fun _ => rfl) follows Tryz.func69 (by kernel_rfl) Or_walk
set_option maxHeartbeats 2000000 in
set_option maxRecDepth 8000 in
theorem Wcmp_walk : ∀ a, conj ((fun a => [a.1.In, a.2.In]) a) → evFn (C := cx) [conCmpu, conOr] [] 0 noHow Tryz.f48 (((rds2 rdWd rdWd)).enc a) fun v H _ => resOut ((fun a => .v (.int .i64 (cmpI a.1.num a.2.num))) a) H v := by
  intro ⟨a, b⟩ ⟨ha, hb⟩
  obtain ⟨a1, a2⟩ : a.In := ha
  obtain ⟨b1, b2⟩ : b.In := hb
  refine And.intro (fun hb => ?_) (fun hb => ?_)
  · refine Eq.trans (a := cmpI a.num b.num) ?_ rfl
    have hb : (decide (a.hi = b.hi) && decide (a.lo = b.lo)) = true := hb
    simp only [Bool.and_eq_true, decide_eq_true_eq] at hb
    unfold Wd.num cmpI
    rw [hb.1, hb.2, if_neg (Int.lt_irrefl _), if_neg (Int.lt_irrefl _)]
    rfl
  · refine And.intro ⟨fun i hi => ?_, (by decide : (2 : Int) ≤ 1000000)⟩ ?_
    · match i, hi with
      | 0, _ => exact trivial
      | 1, _ => exact trivial
    refine Eq.trans (a := cmpI a.num b.num) (b := if cmpI a.hi b.hi = 0 then (if cmpI a.lo b.lo = 0 then 0 else cmpI a.lo b.lo) else cmpI a.hi b.hi) ?_ rfl
    unfold Wd.num cmpI
    repeat' split
    all_goals omega
noncomputable def conWcmp : Con cx := walkCon 48 Tryz.call48 (rds2 rdWd rdWd) (fun a => [a.1.In, a.2.In]) (fun a => .v (.int .i64 (cmpI a.1.num a.2.num))) (fun _ => noHow) [] (fun _ => rfl) follows Tryz.func48 (by kernel_rfl) Wcmp_walk
set_option maxHeartbeats 2000000 in
set_option maxRecDepth 8000 in
theorem Root_walk : ∀ a, conj ((fun a => [0 ≤ a.1 ∧ a.1 ≤ 1152921504606846976, 0 ≤ a.2.1 ∧ a.2.1 ≤ 268435456, 0 ≤ a.2.2 ∧ a.2.2 ≤ 1152921504606846976]) a) → evFn (C := cx) [conMul, conWcmp] [] 0 noHow Tryz.f47 (((rds3 (rdI .i64) (rdI .i64) (rdI .i64))).enc a) fun v H _ => resOut ((fun a => .v (.int .i64 (cmpI (a.1 * a.1) (a.2.1 * a.2.1 * a.2.2)))) a) H v := by
  intro ⟨w, m, s⟩ ⟨h1, h2, h3⟩
  obtain ⟨w0, w1⟩ : 0 ≤ w ∧ w ≤ 1152921504606846976 := h1
  obtain ⟨m0, m1⟩ : 0 ≤ m ∧ m ≤ 268435456 := h2
  obtain ⟨s0, s1⟩ : 0 ≤ s ∧ s ≤ 1152921504606846976 := h3
  have mm : 0 ≤ m * m ∧ m * m ≤ 72057594037927936 := ⟨Int.mul_nonneg m0 m0, Int.le_trans (Int.mul_le_mul m1 m1 m0 (by omega)) (by decide)⟩
  have w2 : 0 ≤ w ∧ w ≤ 9223372036854775807 := ⟨w0, by omega⟩
  have m2 : 0 ≤ m * m ∧ m * m ≤ 9223372036854775807 := ⟨mm.1, by omega⟩
  have s2 : 0 ≤ s ∧ s ≤ 9223372036854775807 := ⟨s0, by omega⟩
  refine And.intro ⟨w2, w2⟩ ?_
  refine And.intro (⟨by omega, by omega⟩ : -9223372036854775808 ≤ m * m ∧ m * m ≤ 9223372036854775807) ?_
  refine And.intro ⟨m2, s2⟩ ?_
  refine And.intro ⟨mulW_in w2 w2, mulW_in m2 s2⟩ ?_
  refine Eq.trans (a := cmpI (w * w) (m * m * s)) (b := cmpI (mulW w w).num (mulW (m * m) s).num) ?_ rfl
  rw [mulW_num, mulW_num]
noncomputable def conRoot : Con cx := walkCon 47 Tryz.call47 (rds3 (rdI .i64) (rdI .i64) (rdI .i64)) (fun a => [0 ≤ a.1 ∧ a.1 ≤ 1152921504606846976, 0 ≤ a.2.1 ∧ a.2.1 ≤ 268435456, 0 ≤ a.2.2 ∧ a.2.2 ≤ 1152921504606846976]) (fun a => .v (.int .i64 (cmpI (a.1 * a.1) (a.2.1 * a.2.1 * a.2.2)))) (fun _ => noHow) [] (fun _ => rfl) follows Tryz.func47 (by kernel_rfl) Root_walk
end Go.Proofs.YtcojfohjdibjjaaGreatDoor
namespace Go.Proofs.YtcojfohjdibjjaaGreatDoor
open Go.RowKit

structure Plc.In (p : Plc) : Prop where
  n : -536870912 ≤ p.n ∧ p.n ≤ 536870912
  s : 0 ≤ p.s ∧ p.s ≤ 288230376151711744
  m : 0 ≤ p.m ∧ p.m ≤ 134217728
theorem ordP_R {x y : Plc} (h : y.s = 0) (h2 : ¬ (x.s = 0 ∧ y.s = 0)) : ordP x y = if 0 ≤ x.n * y.m - y.n * x.m then cmpI ((x.n * y.m - y.n * x.m) * (x.n * y.m - y.n * x.m)) (y.m * y.m * x.s) else -1 := by
  unfold ordP; rw [if_neg h2, if_pos h]; rfl
theorem ordP_B {x y : Plc} (h1 : x.s ≠ 0) (h2 : ¬ y.s = 0) (h3 : ¬ x.n < y.n) : ordP x y = ordB x y := by
  unfold ordP; rw [if_neg (fun h => h1 h.1), if_neg h2, if_neg h1, if_neg h3]
theorem cmpI_rng (x y : Int) : -1 ≤ cmpI x y ∧ cmpI x y ≤ 1 := by unfold cmpI; split <;> (try split) <;> omega
theorem ordP_rng (x y : Plc) : -1 ≤ ordP x y ∧ ordP x y ≤ 1 := by
  unfold ordP ordR ordB
  repeat' split
  all_goals first | exact cmpI_rng _ _ | omega | (have := cmpI_rng ((y.n * x.m - x.n * y.m) * (y.n * x.m - x.n * y.m)) (x.m * x.m * y.s); omega) | skip
  have := cmpI_rng (4 * (y.n - x.n) * (y.n - x.n) * x.s) ((y.s - x.s - (y.n - x.n) * (y.n - x.n)) * (y.s - x.s - (y.n - x.n) * (y.n - x.n)))
  omega
theorem mul_rng {x y a b : Int} (hx : -a ≤ x ∧ x ≤ a) (hy : 0 ≤ y ∧ y ≤ b) : -(a * b) ≤ x * y ∧ x * y ≤ a * b := by
  have ha : 0 ≤ a := by omega
  have h1 := Int.mul_le_mul hx.2 hy.2 hy.1 ha
  have h2 := Int.mul_le_mul (a := -x) (by omega) hy.2 hy.1 ha
  rw [Int.neg_mul] at h2
  omega
set_option maxHeartbeats 2000000 in
set_option maxRecDepth 8000 in
theorem Ord1_walk : ∀ a, conj ((fun a => [a.1.In, a.2.In, a.2.s = 0 ∨ a.1.s ≠ 0 ∧ ¬ a.1.n < a.2.n]) a) → evFn (C := cx) [conCmp, conRoot, conMul, conWcmp] [] 0 noHow Tryz.f23 (((rds2 rdPlc rdPlc)).enc a) fun v H _ => resOut ((fun a => .v (.int .i64 (ordP a.1 a.2))) a) H v := by
  intro ⟨x, y⟩ ⟨hx, hy, hxy⟩
  replace hx : x.In := hx
  replace hy : y.In := hy
  replace hxy : y.s = 0 ∨ x.s ≠ 0 ∧ ¬ x.n < y.n := hxy
  have r1 := mul_rng hx.n hy.m
  have r2 := mul_rng hy.n hx.m
  have i1 : -9223372036854775808 ≤ x.n * y.m ∧ x.n * y.m ≤ 9223372036854775807 := by omega
  have i2 : -9223372036854775808 ≤ y.n * x.m ∧ y.n * x.m ≤ 9223372036854775807 := by omega
  have i3 : -9223372036854775808 ≤ x.n * y.m - y.n * x.m ∧ x.n * y.m - y.n * x.m ≤ 9223372036854775807 := by omega
  refine And.intro (fun hb => ?_) (fun hb => ?_)
  · have hb : (decide (x.s = 0) && decide (y.s = 0)) = true := hb
    simp only [Bool.and_eq_true, decide_eq_true_eq] at hb
    refine And.intro i1 ?_
    refine And.intro i2 ?_
    refine Eq.trans (a := ordP x y) (b := cmpI (x.n * y.m) (y.n * x.m)) ?_ rfl
    unfold ordP; rw [if_pos hb]
  have hb : (decide (x.s = 0) && decide (y.s = 0)) = false := hb
  have hz : ¬ (x.s = 0 ∧ y.s = 0) := by intro h; simp [h.1, h.2] at hb
  refine And.intro (fun hc => ?_) (fun hc => ?_)
  · have hc : y.s = 0 := of_decide_eq_true hc
    refine And.intro i1 ?_
    refine And.intro i2 ?_
    refine And.intro i3 ?_
    have hs1 := hx.s
    refine And.intro (fun hd => ?_) (fun hd => ?_)
    · have hd : 0 ≤ x.n * y.m - y.n * x.m := of_decide_eq_true hd
      have hm1 := hy.m
      refine And.intro ⟨⟨hd, by show x.n * y.m - y.n * x.m ≤ 1152921504606846976; omega⟩, ⟨hm1.1, by show y.m ≤ 268435456; omega⟩, ⟨hs1.1, by show x.s ≤ 1152921504606846976; omega⟩⟩ ?_
      refine Eq.trans (a := ordP x y) (b := cmpI ((x.n * y.m - y.n * x.m) * (x.n * y.m - y.n * x.m)) (y.m * y.m * x.s)) ?_ rfl
      rw [ordP_R hc hz, if_pos hd]
    · have hd : ¬ 0 ≤ x.n * y.m - y.n * x.m := of_decide_eq_false hd
      refine Eq.trans (a := ordP x y) (b := -1) ?_ rfl
      rw [ordP_R hc hz, if_neg hd]
  · have hc : ¬ y.s = 0 := of_decide_eq_false hc
    have hxy := hxy.resolve_left hc
    refine And.intro (fun hd => absurd (of_decide_eq_true hd) hxy.1) (fun _ => ?_)
    refine And.intro (fun hd => absurd (of_decide_eq_true hd) hxy.2) (fun _ => ?_)
    have hn := hxy.2
    have n1 := hx.n
    have n2 := hy.n
    have s1 := hx.s
    have s2 := hy.s
    have hd : 0 ≤ x.n - y.n ∧ x.n - y.n ≤ 1073741824 := by omega
    have hdd : 0 ≤ (x.n - y.n) * (x.n - y.n) ∧ (x.n - y.n) * (x.n - y.n) ≤ 1152921504606846976 := ⟨Int.mul_nonneg hd.1 hd.1, Int.le_trans (Int.mul_le_mul hd.2 hd.2 hd.1 (by omega)) (by decide)⟩
    have he : ordP x y = ordB x y := ordP_B hxy.1 hc hxy.2
    refine And.intro (by constructor <;> omega : -9223372036854775808 ≤ x.n - y.n ∧ x.n - y.n ≤ 9223372036854775807) ?_
    refine And.intro (by constructor <;> omega : -9223372036854775808 ≤ x.s - y.s ∧ x.s - y.s ≤ 9223372036854775807) ?_
    refine And.intro (by constructor <;> omega : -9223372036854775808 ≤ (x.n - y.n) * (x.n - y.n) ∧ (x.n - y.n) * (x.n - y.n) ≤ 9223372036854775807) ?_
    refine And.intro (by constructor <;> omega : -9223372036854775808 ≤ x.s - y.s - (x.n - y.n) * (x.n - y.n) ∧ x.s - y.s - (x.n - y.n) * (x.n - y.n) ≤ 9223372036854775807) ?_
    refine And.intro (fun hf => ?_) (fun hf => ?_)
    · have hf : x.s - y.s - (x.n - y.n) * (x.n - y.n) < 0 := of_decide_eq_true hf
      refine Eq.trans (a := ordP x y) (b := 1) ?_ rfl
      rw [he]; unfold ordB; rw [if_pos hf]
    · have hf : ¬ x.s - y.s - (x.n - y.n) * (x.n - y.n) < 0 := of_decide_eq_false hf
      have e4 : 4 * (x.n - y.n) * (x.n - y.n) = 4 * ((x.n - y.n) * (x.n - y.n)) := by grind
      refine And.intro (by constructor <;> omega : -9223372036854775808 ≤ 4 * (x.n - y.n) ∧ 4 * (x.n - y.n) ≤ 9223372036854775807) ?_
      refine And.intro (by constructor <;> omega : -9223372036854775808 ≤ 4 * (x.n - y.n) * (x.n - y.n) ∧ 4 * (x.n - y.n) * (x.n - y.n) ≤ 9223372036854775807) ?_
      have p1 : 0 ≤ 4 * (x.n - y.n) * (x.n - y.n) ∧ 4 * (x.n - y.n) * (x.n - y.n) ≤ 9223372036854775807 := by constructor <;> omega
      have p2 : 0 ≤ y.s ∧ y.s ≤ 9223372036854775807 := by omega
      have p3 : 0 ≤ x.s - y.s - (x.n - y.n) * (x.n - y.n) ∧ x.s - y.s - (x.n - y.n) * (x.n - y.n) ≤ 9223372036854775807 := by constructor <;> omega
      refine And.intro ⟨p1, p2⟩ ?_
      refine And.intro ⟨p3, p3⟩ ?_
      refine And.intro ⟨mulW_in p1 p2, mulW_in p3 p3⟩ ?_
      refine Eq.trans (a := ordP x y) (b := cmpI (mulW (4 * (x.n - y.n) * (x.n - y.n)) y.s).num (mulW (x.s - y.s - (x.n - y.n) * (x.n - y.n)) (x.s - y.s - (x.n - y.n) * (x.n - y.n))).num) ?_ rfl
      rw [he, mulW_num, mulW_num]; unfold ordB; rw [if_neg hf]
noncomputable def conOrd1 : Con cx := walkCon 23 Tryz.call23 (rds2 rdPlc rdPlc) (fun a => [a.1.In, a.2.In, a.2.s = 0 ∨ a.1.s ≠ 0 ∧ ¬ a.1.n < a.2.n]) (fun a => .v (.int .i64 (ordP a.1 a.2))) (fun _ => noHow) [] (fun _ => rfl) follows Tryz.func23 (by kernel_rfl) Ord1_walk
set_option maxHeartbeats 2000000 in
set_option maxRecDepth 8000 in
theorem Ord_walk : ∀ a, conj ((fun a => [a.1.In, a.2.In]) a) → evFn (C := cx) [conOrd1, conCmp, conRoot, conMul, conWcmp] [] 0 noHow Tryz.f23 (((rds2 rdPlc rdPlc)).enc a) fun v H _ => resOut ((fun a => .v (.int .i64 (ordP a.1 a.2))) a) H v := by
  intro ⟨x, y⟩ ⟨hx, hy⟩
  replace hx : x.In := hx
  replace hy : y.In := hy
  have r1 := mul_rng hx.n hy.m
  have r2 := mul_rng hy.n hx.m
  have i1 : -9223372036854775808 ≤ x.n * y.m ∧ x.n * y.m ≤ 9223372036854775807 := by omega
  have i2 : -9223372036854775808 ≤ y.n * x.m ∧ y.n * x.m ≤ 9223372036854775807 := by omega
  have i3 : -9223372036854775808 ≤ x.n * y.m - y.n * x.m ∧ x.n * y.m - y.n * x.m ≤ 9223372036854775807 := by omega
  refine And.intro (fun hb => ?_) (fun hb => ?_)
  · have hb : (decide (x.s = 0) && decide (y.s = 0)) = true := hb
    simp only [Bool.and_eq_true, decide_eq_true_eq] at hb
    refine And.intro i1 ?_
    refine And.intro i2 ?_
    refine Eq.trans (a := ordP x y) (b := cmpI (x.n * y.m) (y.n * x.m)) ?_ rfl
    unfold ordP; rw [if_pos hb]
  have hb : (decide (x.s = 0) && decide (y.s = 0)) = false := hb
  have hz : ¬ (x.s = 0 ∧ y.s = 0) := by intro h; simp [h.1, h.2] at hb
  refine And.intro (fun hc => ?_) (fun hc => ?_)
  · have hc : y.s = 0 := of_decide_eq_true hc
    refine And.intro i1 ?_
    refine And.intro i2 ?_
    refine And.intro i3 ?_
    have hs1 := hx.s
    refine And.intro (fun hd => ?_) (fun hd => ?_)
    · have hd : 0 ≤ x.n * y.m - y.n * x.m := of_decide_eq_true hd
      have hm1 := hy.m
      refine And.intro ⟨⟨hd, by show x.n * y.m - y.n * x.m ≤ 1152921504606846976; omega⟩, ⟨hm1.1, by show y.m ≤ 268435456; omega⟩, ⟨hs1.1, by show x.s ≤ 1152921504606846976; omega⟩⟩ ?_
      refine Eq.trans (a := ordP x y) (b := cmpI ((x.n * y.m - y.n * x.m) * (x.n * y.m - y.n * x.m)) (y.m * y.m * x.s)) ?_ rfl
      rw [ordP_R hc hz, if_pos hd]
    · have hd : ¬ 0 ≤ x.n * y.m - y.n * x.m := of_decide_eq_false hd
      refine Eq.trans (a := ordP x y) (b := -1) ?_ rfl
      rw [ordP_R hc hz, if_neg hd]
  · have hc : ¬ y.s = 0 := of_decide_eq_false hc
    have hg := ordP_rng y x
    have hng : -9223372036854775808 ≤ -ordP y x ∧ -ordP y x ≤ 9223372036854775807 := by omega
    refine And.intro (fun hd => ?_) (fun hd => ?_)
    · have hd : x.s = 0 := of_decide_eq_true hd
      refine And.intro ⟨hy, hx, .inl hd⟩ ?_
      refine And.intro hng ?_
      refine Eq.trans (a := ordP x y) (b := -ordP y x) (ordP_neg y x) rfl
    have hd : ¬ x.s = 0 := of_decide_eq_false hd
    refine And.intro (fun hf => ?_) (fun hf => ?_)
    · have hf : x.n < y.n := of_decide_eq_true hf
      refine And.intro ⟨hy, hx, .inr ⟨hc, (by omega : ¬ y.n < x.n)⟩⟩ ?_
      refine And.intro hng ?_
      refine Eq.trans (a := ordP x y) (b := -ordP y x) (ordP_neg y x) rfl
    have hf : ¬ x.n < y.n := of_decide_eq_false hf
    have hxy : x.s ≠ 0 ∧ ¬ x.n < y.n := ⟨hd, hf⟩
    have hn := hxy.2
    have n1 := hx.n
    have n2 := hy.n
    have s1 := hx.s
    have s2 := hy.s
    have hd : 0 ≤ x.n - y.n ∧ x.n - y.n ≤ 1073741824 := by omega
    have hdd : 0 ≤ (x.n - y.n) * (x.n - y.n) ∧ (x.n - y.n) * (x.n - y.n) ≤ 1152921504606846976 := ⟨Int.mul_nonneg hd.1 hd.1, Int.le_trans (Int.mul_le_mul hd.2 hd.2 hd.1 (by omega)) (by decide)⟩
    have he : ordP x y = ordB x y := ordP_B hxy.1 hc hxy.2
    refine And.intro (by constructor <;> omega : -9223372036854775808 ≤ x.n - y.n ∧ x.n - y.n ≤ 9223372036854775807) ?_
    refine And.intro (by constructor <;> omega : -9223372036854775808 ≤ x.s - y.s ∧ x.s - y.s ≤ 9223372036854775807) ?_
    refine And.intro (by constructor <;> omega : -9223372036854775808 ≤ (x.n - y.n) * (x.n - y.n) ∧ (x.n - y.n) * (x.n - y.n) ≤ 9223372036854775807) ?_
    refine And.intro (by constructor <;> omega : -9223372036854775808 ≤ x.s - y.s - (x.n - y.n) * (x.n - y.n) ∧ x.s - y.s - (x.n - y.n) * (x.n - y.n) ≤ 9223372036854775807) ?_
    refine And.intro (fun hf => ?_) (fun hf => ?_)
    · have hf : x.s - y.s - (x.n - y.n) * (x.n - y.n) < 0 := of_decide_eq_true hf
      refine Eq.trans (a := ordP x y) (b := 1) ?_ rfl
      rw [he]; unfold ordB; rw [if_pos hf]
    · have hf : ¬ x.s - y.s - (x.n - y.n) * (x.n - y.n) < 0 := of_decide_eq_false hf
      have e4 : 4 * (x.n - y.n) * (x.n - y.n) = 4 * ((x.n - y.n) * (x.n - y.n)) := by grind
      refine And.intro (by constructor <;> omega : -9223372036854775808 ≤ 4 * (x.n - y.n) ∧ 4 * (x.n - y.n) ≤ 9223372036854775807) ?_
      refine And.intro (by constructor <;> omega : -9223372036854775808 ≤ 4 * (x.n - y.n) * (x.n - y.n) ∧ 4 * (x.n - y.n) * (x.n - y.n) ≤ 9223372036854775807) ?_
      have p1 : 0 ≤ 4 * (x.n - y.n) * (x.n - y.n) ∧ 4 * (x.n - y.n) * (x.n - y.n) ≤ 9223372036854775807 := by constructor <;> omega
      have p2 : 0 ≤ y.s ∧ y.s ≤ 9223372036854775807 := by omega
      have p3 : 0 ≤ x.s - y.s - (x.n - y.n) * (x.n - y.n) ∧ x.s - y.s - (x.n - y.n) * (x.n - y.n) ≤ 9223372036854775807 := by constructor <;> omega
      refine And.intro ⟨p1, p2⟩ ?_
      refine And.intro ⟨p3, p3⟩ ?_
      refine And.intro ⟨mulW_in p1 p2, mulW_in p3 p3⟩ ?_
      refine Eq.trans (a := ordP x y) (b := cmpI (mulW (4 * (x.n - y.n) * (x.n - y.n)) y.s).num (mulW (x.s - y.s - (x.n - y.n) * (x.n - y.n)) (x.s - y.s - (x.n - y.n) * (x.n - y.n))).num) ?_ rfl
      rw [he, mulW_num, mulW_num]; unfold ordB; rw [if_neg hf]
noncomputable def conOrd : Con cx := walkCon 23 Tryz.call23 (rds2 rdPlc rdPlc) (fun a => [a.1.In, a.2.In]) (fun a => .v (.int .i64 (ordP a.1 a.2))) (fun _ => noHow) [] (fun _ => rfl) follows Tryz.func23 (by kernel_rfl) Ord_walk
end Go.Proofs.YtcojfohjdibjjaaGreatDoor
