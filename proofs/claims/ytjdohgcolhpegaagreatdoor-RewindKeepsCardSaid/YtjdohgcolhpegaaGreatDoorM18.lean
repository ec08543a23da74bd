/- vec.Limit. -/
import Derived.Test.YtjdohgcolhpegaaGreatDoorM17
namespace Go.Proofs.YtjdohgcolhpegaaGreatDoor.Df
open Go.RowKit

def W.ofL (x : List SV) : W := ⟨(hdS x).iv, (hdS (tlS x)).iv, (hdS (tlS (tlS x))).bv⟩
structure WFam where
  n : Nat
  g : Nat → W
def rdWF : Rd WFam := ⟨.rs 3 0 fun _ => [.v (.int .u64 0), .v (.int .u64 0), .v (.bool false)], fun x => ⟨x.rn, fun i => W.ofL (x.rf i)⟩, fun p => .rs 3 p.n fun i => (p.g i).cells, fun _ => rfl⟩
def W.zero (a : W) : Prop := a.hi = 0 ∧ a.lo = 0 ∧ a.neg = false
def W.norm (a : W) : Prop := u64 a.hi ∧ u64 a.lo ∧ (a.neg = true → ¬ (a.hi = 0 ∧ a.lo = 0))
def wSat (a : W) : Int := if a.neg then - a.lo else a.lo
def W.small (a : W) : Prop := a.hi = 0 ∧ 0 ≤ a.lo ∧ a.lo < 9223372036854775808
def wFar (x y : W) : W := if szLess ⟨x.hi, x.lo⟩ ⟨y.hi, y.lo⟩ then ⟨y.hi, y.lo, false⟩ else ⟨x.hi, x.lo, false⟩
def sumO (g : Nat → W) : Nat → W
  | 0 => ⟨0, 0, false⟩
  | 1 => ⟨0, 0, false⟩
  | _ + 2 => g 1
def sumCut (g : Nat → W) : Cut := ⟨Nat, fun k => k ≤ 2, fun k => ⟨[sl 2 (.p 0 0), sl 3 (.p 1 0), sl 7 (.rs 3 2 fun i => (g i).cells), sl 8 (.v (.int .i64 2)), sl 9 (.v (.int .i64 k))],
  [(0, .lay [.il .u64 0, .il .u64 0, .bl false] 171), (1, .lay (sumO g k).cells 171)], 2, 0, [], []⟩, fun k => 2 - k⟩
set_option maxHeartbeats 2000000 in
set_option maxRecDepth 8000 in
theorem Plus_walk : ∀ a, conj ((fun a => [a.1.hi = 0 ∧ a.1.lo = 0, a.2.In]) a) → evFn (C := cx) [] [] 0 noHow Tryz.f127 ((rds2 rdSz rdSz).enc a) fun v H _ => resOut ((fun a => a.2.sv) a) H v := by
  intro ⟨s, t⟩ ⟨⟨h1, h2⟩, hm⟩
  replace h1 : s.hi = 0 := h1
  replace h2 : s.lo = 0 := h2
  obtain ⟨⟨a1, a2⟩, a3, a4⟩ : t.In := hm
  repeat' (first | (refine And.intro ?_ ?_) | (intro _))
  all_goals (try (refine Eq.trans ?_ rfl))
  all_goals (try simp only [rds1, rds2, rds3, rdSz, rdW, rdB, rdI, Sz.of, W.of, hdS, tlS, SV.al, SV.iv, SV.bv, constSV, decide_eq_true_eq, decide_eq_false_iff_not] at *)
  all_goals (try simp only [wu] at *)
  all_goals first | omega | trace_state
noncomputable def conPlus : Con cx := walkCon 127 Tryz.call127 (rds2 rdSz rdSz) (fun a => [a.1.hi = 0 ∧ a.1.lo = 0, a.2.In]) (fun a => a.2.sv) (fun _ => noHow) [] (fun _ => rfl) follows Tryz.func127 (by kernel_rfl) Plus_walk

set_option maxHeartbeats 2000000 in
set_option maxRecDepth 8000 in
theorem Minus_walk : ∀ a, conj ((fun a => [a.2.hi = 0 ∧ a.2.lo = 0, a.1.In]) a) → evFn (C := cx) [] [] 0 noHow Tryz.f130 ((rds2 rdSz rdSz).enc a) fun v H _ => resOut ((fun a => a.1.sv) a) H v := by
  intro ⟨t, s⟩ ⟨⟨h1, h2⟩, hm⟩
  replace h1 : s.hi = 0 := h1
  replace h2 : s.lo = 0 := h2
  obtain ⟨⟨a1, a2⟩, a3, a4⟩ : t.In := hm
  repeat' (first | (refine And.intro ?_ ?_) | (intro _))
  all_goals (try (refine Eq.trans ?_ rfl))
  all_goals (try simp only [rds1, rds2, rds3, rdSz, rdW, rdB, rdI, Sz.of, W.of, hdS, tlS, SV.al, SV.iv, SV.bv, constSV, decide_eq_true_eq, decide_eq_false_iff_not] at *)
  all_goals (try simp only [wu] at *)
  all_goals first | omega | trace_state
noncomputable def conMinus : Con cx := walkCon 130 Tryz.call130 (rds2 rdSz rdSz) (fun a => [a.2.hi = 0 ∧ a.2.lo = 0, a.1.In]) (fun a => a.1.sv) (fun _ => noHow) [] (fun _ => rfl) follows Tryz.func130 (by kernel_rfl) Minus_walk

set_option maxHeartbeats 2000000 in
set_option maxRecDepth 8000 in
theorem Sat_walk : ∀ a, conj ((fun a => [a.small]) a) → evFn (C := cx) [] [] 0 noHow Tryz.f115 ((rds1 rdW).enc a) fun v H _ => resOut ((fun a => .v (.int .i64 (wSat a))) a) H v := by
  intro x hx
  obtain ⟨h1, h2, h3⟩ : x.small := hx
  repeat' (first | (refine And.intro ?_ ?_) | (intro _))
  all_goals (try (refine Eq.trans ?_ rfl))
  all_goals (try simp only [rds1, rds2, rds3, rdSz, rdW, rdB, rdI, Sz.of, W.of, hdS, tlS, SV.al, SV.iv, SV.bv, constSV, decide_eq_true_eq, decide_eq_false_iff_not] at *)
  all_goals (try simp only [wSat, wu, wi])
  all_goals first | omega | grind | trace_state
noncomputable def conSat : Con cx := walkCon 115 Tryz.call115 (rds1 rdW) (fun a => [a.small]) (fun a => .v (.int .i64 (wSat a))) (fun _ => noHow) [] (fun _ => rfl) follows Tryz.func115 (by kernel_rfl) Sat_walk

set_option maxHeartbeats 2000000 in
set_option maxRecDepth 8000 in
theorem Sum_walk : ∀ a, conj ((fun a => [a.n = 2, (a.g 0).zero, (a.g 1).norm]) a) → evFn (C := cx) [conMade, conPlus, conMinus, conSLess] [] 0 ⟨[], [], [3], 0⟩ Tryz.f114 ((rds1 rdWF).enc a) fun v H _ => resOut ((fun a => (a.g 1).sv) a) H v := by
  intro ⟨n, g⟩ ⟨hn, hx, hy⟩
  replace hn : n = 2 := hn
  subst hn
  obtain ⟨x1, x2, x3⟩ : (g 0).zero := hx
  obtain ⟨⟨a1, a2⟩, ⟨a3, a4⟩, a5⟩ : (g 1).norm := hy
  refine Exists.intro (sumCut g) ?_
  refine And.intro ?_ ?_
  · refine ⟨(0 : Nat), [], [], trivial, Nat.zero_le _, ?_⟩
    repeat' (first | (refine And.intro ?_ ?_) | (intro _) | exact rfl)
  refine fun (k : Nat) (hk : k ≤ 2) => ?_
  refine And.intro (fun hb => ?_) (fun hb => ?_)
  · have hb : (k : Int) < 2 := of_decide_eq_true hb
    have hk01 : k = 0 ∨ k = 1 := by omega
    clear hk
    repeat' (first | (refine And.intro ?_ ?_) | (intro _))
    all_goals try (refine Exists.intro (k + 1 : Nat) ?_; refine Exists.intro [] ?_; refine Exists.intro [] ?_; refine And.intro ?_ ?_; (show 2 - (k + 1) < 2 - k; omega); refine And.intro ?_ ?_; (show k + 1 ≤ 2; omega); repeat' (first | (refine And.intro ?_ ?_) | (intro _) | exact rfl))
    all_goals (try (refine Eq.trans ?_ rfl))
    all_goals (try simp only [rds1, rds2, rds3, rdSz, rdW, rdB, rdI, rdVec, Vec.of, rdWF, W.ofL, SV.rf, Sz.of, W.of, hdS, tlS, SV.al, SV.iv, SV.bv, constSV, decide_eq_true_eq, decide_eq_false_iff_not] at *)
    all_goals (try (obtain rfl | rfl := hk01))
    all_goals first | omega | (simp only [sumO, wMade, szLess, show ((1 : Nat) : Int).toNat = 1 from rfl, show ((0 : Nat) : Int).toNat = 0 from rfl] at * <;> first | omega | grind) | trace_state
  · obtain rfl : k = 2 := by simp only [decide_eq_false_iff_not] at hb; omega
    repeat' (first | (refine And.intro ?_ ?_) | (intro _) | exact rfl)
noncomputable def conSum : Con cx := walkCon 114 Tryz.call114 (rds1 rdWF) (fun a => [a.n = 2, (a.g 0).zero, (a.g 1).norm]) (fun a => (a.g 1).sv) (fun _ => ⟨[], [], [3], 0⟩) [] (fun _ => rfl) follows Tryz.func114 (by kernel_rfl) Sum_walk

end Go.Proofs.YtjdohgcolhpegaaGreatDoor.Df
