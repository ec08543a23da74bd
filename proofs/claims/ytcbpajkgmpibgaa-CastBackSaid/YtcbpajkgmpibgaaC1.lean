/- Structures; contracts of small functions of cast. -/
import Derived.Test.YtcbpajkgmpibgaaC0
import Derived.Test.YtcbpajkgmpibgaaK0
namespace Go.Proofs.Ytcbpajkgmpibgaa
open Go.RowKit

theorem follows : cx.P.follows .mixedOrders = true := by kernel_rfl
/-- A slot, as it stands. -/
def sl (t : Nat) (v : SV) : Nat × Slot := (t, ⟨0, 0, [], v⟩)
structure Vec where
  x : Int
  y : Int
def Vec.cells (b : Vec) : List SV := [.v (.int .i64 b.x), .v (.int .i64 b.y)]
def Vec.sv (b : Vec) : SV := .agg b.cells
def Vec.of (x : SV) : Vec := ⟨(hdS (x.al)).iv, (hdS (tlS (x.al))).iv⟩
def rdVec : Rd Vec := ⟨.agg [.v (.int .i64 0), .v (.int .i64 0)], Vec.of, Vec.sv, fun _ => rfl⟩

structure Body where
  iD : Int
  posX : Int
  posY : Int
  velX : Int
  velY : Int
  w : Int
  h : Int
  round : Bool
  fixed : Bool
def Body.cells (b : Body) : List SV := [.v (.int .i64 b.iD), .v (.int .i64 b.posX), .v (.int .i64 b.posY), .v (.int .i64 b.velX), .v (.int .i64 b.velY), .v (.int .i64 b.w), .v (.int .i64 b.h), .v (.bool b.round), .v (.bool b.fixed)]
def Body.sv (b : Body) : SV := .agg b.cells
def Body.of (x : SV) : Body := ⟨(hdS (x.al)).iv, (hdS (tlS (x.al))).iv, (hdS (tlS (tlS (x.al)))).iv, (hdS (tlS (tlS (tlS (x.al))))).iv, (hdS (tlS (tlS (tlS (tlS (x.al)))))).iv, (hdS (tlS (tlS (tlS (tlS (tlS (x.al))))))).iv, (hdS (tlS (tlS (tlS (tlS (tlS (tlS (x.al)))))))).iv, (hdS (tlS (tlS (tlS (tlS (tlS (tlS (tlS (x.al))))))))).bv, (hdS (tlS (tlS (tlS (tlS (tlS (tlS (tlS (tlS (x.al)))))))))).bv⟩
def rdBody : Rd Body := ⟨.agg [.v (.int .i64 0), .v (.int .i64 0), .v (.int .i64 0), .v (.int .i64 0), .v (.int .i64 0), .v (.int .i64 0), .v (.int .i64 0), .v (.bool false), .v (.bool false)], Body.of, Body.sv, fun _ => rfl⟩

def Plc.cells (b : Plc) : List SV := [.v (.int .i64 b.n), .v (.int .i64 b.s), .v (.int .i64 b.m)]
def Plc.sv (b : Plc) : SV := .agg b.cells
def Plc.of (x : SV) : Plc := ⟨(hdS (x.al)).iv, (hdS (tlS (x.al))).iv, (hdS (tlS (tlS (x.al)))).iv⟩
def rdPlc : Rd Plc := ⟨.agg [.v (.int .i64 0), .v (.int .i64 0), .v (.int .i64 0)], Plc.of, Plc.sv, fun _ => rfl⟩

structure Wd where
  hi : Int
  lo : Int
def Wd.cells (b : Wd) : List SV := [.v (.int .u64 b.hi), .v (.int .u64 b.lo)]
def Wd.sv (b : Wd) : SV := .agg b.cells
def Wd.of (x : SV) : Wd := ⟨(hdS (x.al)).iv, (hdS (tlS (x.al))).iv⟩
def rdWd : Rd Wd := ⟨.agg [.v (.int .u64 0), .v (.int .u64 0)], Wd.of, Wd.sv, fun _ => rfl⟩

structure Area where
  lowX : Int
  lowY : Int
  highX : Int
  highY : Int
def Area.cells (b : Area) : List SV := [.v (.int .i64 b.lowX), .v (.int .i64 b.lowY), .v (.int .i64 b.highX), .v (.int .i64 b.highY)]
def Area.sv (b : Area) : SV := .agg b.cells
def Area.of (x : SV) : Area := ⟨(hdS (x.al)).iv, (hdS (tlS (x.al))).iv, (hdS (tlS (tlS (x.al)))).iv, (hdS (tlS (tlS (tlS (x.al))))).iv⟩
def rdArea : Rd Area := ⟨.agg [.v (.int .i64 0), .v (.int .i64 0), .v (.int .i64 0), .v (.int .i64 0)], Area.of, Area.sv, fun _ => rfl⟩

structure Form where
  x : Int
  y : Int
  w : Int
  h : Int
  round : Bool
def Form.cells (b : Form) : List SV := [.v (.int .i8 b.x), .v (.int .i8 b.y), .v (.int .u8 b.w), .v (.int .u8 b.h), .v (.bool b.round)]
def Form.sv (b : Form) : SV := .agg b.cells
def Form.of (x : SV) : Form := ⟨(hdS (x.al)).iv, (hdS (tlS (x.al))).iv, (hdS (tlS (tlS (x.al)))).iv, (hdS (tlS (tlS (tlS (x.al))))).iv, (hdS (tlS (tlS (tlS (tlS (x.al)))))).bv⟩
def rdForm : Rd Form := ⟨.agg [.v (.int .i8 0), .v (.int .i8 0), .v (.int .u8 0), .v (.int .u8 0), .v (.bool false)], Form.of, Form.sv, fun _ => rfl⟩


theorem wu (n : Int) : IntKind.u64.wrap n = n % 18446744073709551616 := rfl
theorem p32 : (2 : Int) ^ min (Int.toNat 32) IntKind.u64.bits = 4294967296 := rfl
theorem fd32 (a : Int) : a.fdiv 4294967296 = a / 4294967296 := Int.fdiv_eq_ediv_of_nonneg a (by omega)
theorem bits_and {A i : Nat} (h : A < 18446744073709551616) (hi : i < 64) : bitsI .and .u64 (A : Int) ((2 ^ i - 1 : Nat) : Int) = ((A % 2 ^ i : Nat) : Int) := by
  have hp : 2 ^ i - 1 < 18446744073709551616 := by
    have : 2 ^ i < 2 ^ 64 := Nat.pow_lt_pow_right (by omega) hi
    omega
  unfold bitsI
  have e1 : (BitVec.ofInt 64 (A : Int)).toNat = A := by
    rw [BitVec.ofInt_natCast, BitVec.toNat_ofNat, Nat.mod_eq_of_lt (by omega)]
  have e2 : (BitVec.ofInt 64 ((2 ^ i - 1 : Nat) : Int)).toNat = 2 ^ i - 1 := by
    rw [BitVec.ofInt_natCast, BitVec.toNat_ofNat, Nat.mod_eq_of_lt (by omega)]
  have e3 : (BitVec.ofInt 64 (A : Int) &&& BitVec.ofInt 64 ((2 ^ i - 1 : Nat) : Int)).toNat = A % 2 ^ i := by
    rw [BitVec.toNat_and, e1, e2, Nat.and_two_pow_sub_one_eq_mod]
  show IntKind.u64.wrap ((BitVec.ofInt 64 (A : Int) &&& BitVec.ofInt 64 ((2 ^ i - 1 : Nat) : Int)).toNat : Int) = _
  rw [e3, wu]
  have := Nat.mod_le A (2 ^ i)
  omega
theorem and32 {a : Int} (h0 : 0 ≤ a) (h : a < 18446744073709551616) : bitsI .and .u64 a 4294967295 = a % 4294967296 := by
  obtain ⟨A, rfl⟩ := Int.eq_ofNat_of_zero_le h0
  have := bits_and (A := A) (i := 32) (by omega) (by omega)
  simpa using this
def conNaN : Con cx := walkCon (Γ := []) (Fs := []) (d := 0) 68 Try.call68 (rds1 (rdI .i64)) (fun _ => []) (fun n => .bl false) (fun _ => noHow) [] (fun _ => rfl) follows Try.func68 (by kernel_rfl)
  fun n _ => by show (_ : Bool) = _; simp
def conNaNu : Con cx := walkCon (Γ := []) (Fs := []) (d := 0) 75 Try.call75 (rds1 (rdI .u64)) (fun _ => []) (fun n => .bl false) (fun _ => noHow) [] (fun _ => rfl) follows Try.func75 (by kernel_rfl)
  fun n _ => by show (_ : Bool) = _; simp
set_option maxHeartbeats 2000000 in
set_option maxRecDepth 8000 in
theorem Cmp_walk : ∀ a, conj ((fun _ => []) a) → evFn (C := cx) [conNaN] [] 0 noHow Try.f55 (((rds2 (rdI .i64) (rdI .i64))).enc a) fun v H _ => resOut ((fun a => .v (.int .i64 (cmpI a.1 a.2))) a) H v := by
  intro ⟨x, y⟩ _
  repeat' (first | (refine And.intro ?_ ?_) | (intro _))
  all_goals (simp only [rds1, rds2, rds3, rdI, hdS, tlS, SV.iv, constSV, decide_eq_true_eq, decide_eq_false_iff_not] at *)
  all_goals (refine Eq.trans (a := cmpI x y) ?_ rfl; unfold cmpI; split <;> (try split) <;> first | rfl | omega)
noncomputable def conCmp : Con cx := walkCon 55 Try.call55 (rds2 (rdI .i64) (rdI .i64)) (fun _ => []) (fun a => .v (.int .i64 (cmpI a.1 a.2))) (fun _ => noHow) [] (fun _ => rfl) follows Try.func55 (by kernel_rfl) Cmp_walk
set_option maxHeartbeats 2000000 in
set_option maxRecDepth 8000 in
theorem Cmpu_walk : ∀ a, conj ((fun _ => []) a) → evFn (C := cx) [conNaNu] [] 0 noHow Try.f70 (((rds2 (rdI .u64) (rdI .u64))).enc a) fun v H _ => resOut ((fun a => .v (.int .i64 (cmpI a.1 a.2))) a) H v := by
  intro ⟨x, y⟩ _
  repeat' (first | (refine And.intro ?_ ?_) | (intro _))
  all_goals (simp only [rds1, rds2, rds3, rdI, hdS, tlS, SV.iv, constSV, decide_eq_true_eq, decide_eq_false_iff_not] at *)
  all_goals (refine Eq.trans (a := cmpI x y) ?_ rfl; unfold cmpI; split <;> (try split) <;> first | rfl | omega)
noncomputable def conCmpu : Con cx := walkCon 70 Try.call70 (rds2 (rdI .u64) (rdI .u64)) (fun _ => []) (fun a => .v (.int .i64 (cmpI a.1 a.2))) (fun _ => noHow) [] (fun _ => rfl) follows Try.func70 (by kernel_rfl) Cmpu_walk
def Wd.num (w : Wd) : Int := w.hi * 18446744073709551616 + w.lo
def Wd.In (w : Wd) : Prop := (0 ≤ w.hi ∧ w.hi < 18446744073709551616) ∧ 0 ≤ w.lo ∧ w.lo < 18446744073709551616
def mulW (a b : Int) : Wd := ⟨a * b / 18446744073709551616, a * b % 18446744073709551616⟩
theorem mulW_in {a b : Int} (ha : 0 ≤ a ∧ a ≤ 9223372036854775807) (hb : 0 ≤ b ∧ b ≤ 9223372036854775807) : (mulW a b).In := by
  have h1 := Int.mul_nonneg ha.1 hb.1
  have h2 : a * b ≤ 9223372036854775807 * 9223372036854775807 := Int.mul_le_mul ha.2 hb.2 hb.1 (by omega)
  unfold mulW Wd.In
  simp only
  omega
theorem mulW_num (a b : Int) : (mulW a b).num = a * b := by
  unfold mulW Wd.num
  simp only
  omega
set_option maxHeartbeats 2000000 in
set_option maxRecDepth 8000 in
theorem Mul_walk : ∀ a, conj ((fun a => [0 ≤ a.1 ∧ a.1 ≤ 9223372036854775807, 0 ≤ a.2 ∧ a.2 ≤ 9223372036854775807]) a) → evFn (C := cx) [] [] 0 noHow Try.f58 (((rds2 (rdI .i64) (rdI .i64))).enc a) fun v H _ => resOut ((fun a => (mulW a.1 a.2).sv) a) H v := by
  intro ⟨n, m⟩ ⟨hn, hm⟩
  obtain ⟨hm0, hm⟩ : 0 ≤ m ∧ m ≤ 9223372036854775807 := hm
  obtain ⟨hn0, hn⟩ : 0 ≤ n ∧ n ≤ 9223372036854775807 := hn
  repeat' (first | (refine And.intro ?_ ?_) | (intro _))
  all_goals (try (refine Eq.trans ?_ rfl))
  all_goals (try simp only [rds1, rds2, rds3, rdWd, rdI, Wd.of, hdS, tlS, SV.al, SV.iv, constSV, wu, p32, fd32] at *)
  all_goals (try simp only [mulW])
  all_goals (rw [show n % 18446744073709551616 = n by omega, show m % 18446744073709551616 = m by omega])
  have ha : 0 ≤ n / 4294967296 ∧ n / 4294967296 < 2147483648 := by omega
  have hb : 0 ≤ n % 4294967296 ∧ n % 4294967296 < 4294967296 := by omega
  have hc : 0 ≤ m / 4294967296 ∧ m / 4294967296 < 2147483648 := by omega
  have hd : 0 ≤ m % 4294967296 ∧ m % 4294967296 < 4294967296 := by omega
  have e1 : n = n / 4294967296 * 4294967296 + n % 4294967296 := by omega
  have e2 : m = m / 4294967296 * 4294967296 + m % 4294967296 := by omega
  have hn' : n < 18446744073709551616 := by omega
  have hm' : m < 18446744073709551616 := by omega
  simp only [and32 hn0 hn', and32 hm0 hm']
  generalize n / 4294967296 = a at *
  generalize n % 4294967296 = b at *
  generalize m / 4294967296 = c at *
  generalize m % 4294967296 = d at *
  have hs : n * m = a * c * 18446744073709551616 + (a * d + b * c) * 4294967296 + b * d := by
    rw [e1, e2]; grind
  rw [hs]
  have p1 : 0 ≤ b * d ∧ b * d ≤ 4294967295 * 4294967295 := ⟨Int.mul_nonneg hb.1 hd.1, Int.mul_le_mul (by omega) (by omega) hd.1 (by omega)⟩
  have p2 : 0 ≤ a * d ∧ a * d ≤ 2147483647 * 4294967295 := ⟨Int.mul_nonneg ha.1 hd.1, Int.mul_le_mul (by omega) (by omega) hd.1 (by omega)⟩
  have p3 : 0 ≤ b * c ∧ b * c ≤ 4294967295 * 2147483647 := ⟨Int.mul_nonneg hb.1 hc.1, Int.mul_le_mul (by omega) (by omega) hc.1 (by omega)⟩
  have p4 : 0 ≤ a * c ∧ a * c ≤ 2147483647 * 2147483647 := ⟨Int.mul_nonneg ha.1 hc.1, Int.mul_le_mul (by omega) (by omega) hc.1 (by omega)⟩
  clear hs e1 e2
  generalize b * d = P at *
  generalize a * d = Q at *
  generalize b * c = R at *
  generalize a * c = S at *
  rw [show P % 18446744073709551616 = P by omega, show Q % 18446744073709551616 = Q by omega, show R % 18446744073709551616 = R by omega, show S % 18446744073709551616 = S by omega]
  rw [show (Q + P / 4294967296) % 18446744073709551616 = Q + P / 4294967296 by omega]
  have q1 : 0 ≤ Q + P / 4294967296 := by omega
  have q2 : Q + P / 4294967296 < 18446744073709551616 := by omega
  simp only [and32 q1 q2]
  omega
noncomputable def conMul : Con cx := walkCon 58 Try.call58 (rds2 (rdI .i64) (rdI .i64)) (fun a => [0 ≤ a.1 ∧ a.1 ≤ 9223372036854775807, 0 ≤ a.2 ∧ a.2 ≤ 9223372036854775807]) (fun a => (mulW a.1 a.2).sv) (fun _ => noHow) [] (fun _ => rfl) follows Try.func58 (by kernel_rfl) Mul_walk
end Go.Proofs.Ytcbpajkgmpibgaa
