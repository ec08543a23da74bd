/- vec.Limit. vec.Limit; beyond; the lists of Check. -/
import Derived.Test.YtbnoejabpmlmdaaGreatDoorM18
import Derived.Test.YtbnoejabpmlmdaaGreatDoorM3
namespace Go.Proofs.YtbnoejabpmlmdaaGreatDoor.Df
open Go.RowKit

theorem lt2 {i : Nat} (h : i < 2) : i = 0 ∨ i = 1 := by omega
theorem chunk0 {a b c : SV} {r : List SV} : chunk (a :: b :: c :: r) 3 0 = [a, b, c] := rfl
theorem chunk1 {a b c d x f : SV} {r : List SV} : chunk (a :: b :: c :: d :: x :: f :: r) 3 1 = [d, x, f] := rfl
theorem drop0 {l : List SV} : List.drop 0 l = l := rfl
theorem W.eta (a : W) : (⟨a.hi, a.lo, a.neg⟩ : W) = a := rfl
theorem Sz.eta (a : Sz) : (⟨a.hi, a.lo⟩ : Sz) = a := rfl
theorem Vec.eta (a : Vec) : (⟨a.x, a.y⟩ : Vec) = a := rfl
def farOf (v : Vec) : W := wFar (wDiff v.x 0) (wDiff v.y 0)
def lim1 (n m : Int) (f : W) : W := wTrunc (wMul (wDiff n 0) (wOf m)) f
def lim (v : Vec) (m : Int) : Vec := if v.x = 0 ∧ v.y = 0 then ⟨0, 0⟩ else if szLess ⟨(wOf m).hi, (wOf m).lo⟩ ⟨(farOf v).hi, (farOf v).lo⟩ then ⟨wSat (lim1 v.x m (farOf v)), wSat (lim1 v.y m (farOf v))⟩ else v
theorem farOf_ok {v : Vec} (hx : InR v.x) (hy : InR v.y) : (farOf v).hi = 0 ∧ (farOf v).lo < 18446744073709551616 ∧ v.x.natAbs ≤ (farOf v).lo ∧ v.y.natAbs ≤ (farOf v).lo ∧ (farOf v).neg = false := by
  unfold InR at hx hy
  simp only [farOf, wFar, wDiff, szLess]
  split <;> rename_i h <;> simp at h ⊢ <;> omega
theorem lim1_ok {n m : Int} {f : W} (hn : InR n) (hm : 1 ≤ m ∧ m ≤ 65536) (h0 : 1 ≤ f.lo) (hf : (n.natAbs : Int) ≤ f.lo) : (lim1 n m f).hi = 0 ∧ 0 ≤ (lim1 n m f).lo ∧ (lim1 n m f).lo ≤ m ∧ ((lim1 n m f).neg = true → ¬ ((lim1 n m f).hi = 0 ∧ (lim1 n m f).lo = 0)) := by
  unfold InR at hn
  have e : (wMul (wDiff n 0) (wOf m)).hi * 18446744073709551616 + (wMul (wDiff n 0) (wOf m)).lo = n.natAbs * m := by
    simp only [wMul, wMade, szTimes, wDiff, wOf]
    rw [show ((n - 0).natAbs : Int) = n.natAbs by omega, show ((m.natAbs : Nat) : Int) = m by omega]
    omega
  have hq : (n.natAbs : Int) * m / f.lo ≤ m := by
    refine Int.ediv_le_of_le_mul (by omega) ?_
    rw [Int.mul_comm]
    exact Int.mul_le_mul_of_nonneg_left hf (by omega)
  have hq0 : 0 ≤ (n.natAbs : Int) * m / f.lo := Int.ediv_nonneg (Int.mul_nonneg (by omega) (by omega)) (by omega)
  have e1 : (lim1 n m f).hi = (n.natAbs : Int) * m / f.lo / 18446744073709551616 := by
    show (szDiv ⟨_, _⟩ f.lo).hi = _
    simp only [szDiv, e]
  have e2 : (lim1 n m f).lo = (n.natAbs : Int) * m / f.lo % 18446744073709551616 := by
    show (szDiv ⟨_, _⟩ f.lo).lo = _
    simp only [szDiv, e]
  refine ⟨by omega, by omega, by omega, fun h => ?_⟩
  have : (wMade (szDiv ⟨(wMul (wDiff n 0) (wOf m)).hi, (wMul (wDiff n 0) (wOf m)).lo⟩ f.lo) ((wMul (wDiff n 0) (wOf m)).neg != f.neg)).neg = true := h
  simp only [wMade, Bool.and_eq_true, Bool.not_eq_true', Bool.and_eq_false_iff, decide_eq_false_iff_not] at this
  intro hc
  have h1 : (szDiv ⟨(wMul (wDiff n 0) (wOf m)).hi, (wMul (wDiff n 0) (wOf m)).lo⟩ f.lo).hi = 0 := hc.1
  have h2 : (szDiv ⟨(wMul (wDiff n 0) (wOf m)).hi, (wMul (wDiff n 0) (wOf m)).lo⟩ f.lo).lo = 0 := hc.2
  omega
theorem wMul_in {a b : W} (ha : 0 ≤ a.lo ∧ a.lo < 18446744073709551616) (hb : 0 ≤ b.lo ∧ b.lo < 4294967296) : (wMul a b).In := by
  have h0 : 0 ≤ a.lo * b.lo := Int.mul_nonneg ha.1 hb.1
  have h1 : a.lo * b.lo ≤ 18446744073709551615 * 4294967295 := Int.mul_le_mul (by omega) (by omega) hb.1 (by omega)
  simp only [W.In, u64, wMul, wMade, szTimes]
  omega
theorem less_far {v : Vec} {m : Int} (f1 : (farOf v).hi = 0) (hm : 1 ≤ m ∧ m ≤ 65536) : szLess ⟨(wOf m).hi, (wOf m).lo⟩ ⟨(farOf v).hi, (farOf v).lo⟩ = decide (m < (farOf v).lo) := by
  have h : ((m.natAbs : Nat) : Int) = m := by omega
  simp [szLess, wOf, f1, h]
theorem lim_ok {v : Vec} {m : Int} (hx : InR v.x) (hy : InR v.y) (hm : 1 ≤ m ∧ m ≤ 65536) : -m ≤ (lim v m).x ∧ (lim v m).x ≤ m ∧ -m ≤ (lim v m).y ∧ (lim v m).y ≤ m := by
  obtain ⟨f1, f2, f3, f4, -⟩ := farOf_ok hx hy
  have hs := less_far (m := m) f1 hm
  unfold lim
  rw [hs]
  split
  · simp only; omega
  · split
    · rename_i h
      have h := of_decide_eq_true h
      have a := lim1_ok (f := farOf v) hx hm (by omega) f3
      have b := lim1_ok (f := farOf v) hy hm (by omega) f4
      simp only [wSat]
      repeat' split
      all_goals omega
    · rename_i h
      have h : ¬ m < (farOf v).lo := fun hc => h (decide_eq_true hc)
      omega
set_option maxHeartbeats 2000000 in
set_option maxRecDepth 8000 in
theorem Toward_walk : ∀ a, conj ((fun a => [a.1.x = 0 ∧ a.1.y = 0, InR a.2.1.x ∧ InR a.2.1.y, 1 ≤ a.2.2 ∧ a.2.2 ≤ 65536]) a) → evFn (C := cx) [conOf, conMul, conTrunc, conSum, conSat, conWay, conSLess] [] 0 noHow Tryz.f93 ((rds3 rdVec rdVec (rdI .i64)).enc a) fun v H _ => resOut ((fun a => (lim a.2.1 a.2.2).sv) a) H v := by
  intro ⟨a, v, m⟩ ⟨h0, hv, hm⟩
  obtain ⟨ax, ay⟩ : a.x = 0 ∧ a.y = 0 := h0
  obtain ⟨vx, vy⟩ : InR v.x ∧ InR v.y := hv
  replace hm : 1 ≤ m ∧ m ≤ 65536 := hm
  obtain ⟨a1, a2⟩ := a
  obtain rfl : a1 = 0 := ax
  obtain rfl : a2 = 0 := ay
  have hs := less_far (v := v) (m := m) (farOf_ok vx vy).1 hm
  have F := farOf_ok vx vy
  have l1 := lim1_ok (f := farOf v) (n := v.x) (m := m) vx hm
  have l2 := lim1_ok (f := farOf v) (n := v.y) (m := m) vy hm
  have i0 : 0 ≤ (wOf m).lo ∧ (wOf m).lo < 4294967296 := by simp only [wOf]; omega
  have i1 := wMul_in (a := wDiff v.x 0) (b := wOf m) (by unfold InR at vx; simp only [wDiff]; omega) i0
  have i2 := wMul_in (a := wDiff v.y 0) (b := wOf m) (by unfold InR at vy; simp only [wDiff]; omega) i0
  have i3 : 0 ≤ (wDiff v.x 0).lo ∧ (wDiff v.x 0).lo < 18446744073709551616 := by unfold InR at vx; simp only [wDiff]; omega
  have i4 : 0 ≤ (wDiff v.y 0).lo ∧ (wDiff v.y 0).lo < 18446744073709551616 := by unfold InR at vy; simp only [wDiff]; omega
  have z0 : (wOf 0).hi = 0 ∧ (wOf 0).lo = 0 ∧ (wOf 0).neg = false := ⟨rfl, rfl, rfl⟩
  have L : lim v m = if v.x = 0 ∧ v.y = 0 then ⟨0, 0⟩ else if m < (farOf v).lo then ⟨wSat (lim1 v.x m (farOf v)), wSat (lim1 v.y m (farOf v))⟩ else v := by
    unfold lim
    rw [hs]
    simp only [decide_eq_true_eq]
  simp only [W.In, u64] at i1 i2
  unfold InR at vx vy
  simp only [lim1, farOf] at F l1 l2 L hs
  repeat' (first | (refine And.intro ?_ ?_) | (intro _))
  all_goals try (rename_i i hi; obtain rfl | rfl := lt2 hi <;> repeat' (first | exact trivial | refine And.intro ?_ ?_))
  all_goals (try (refine Eq.trans ?_ rfl))
  all_goals (try simp only [rds1, rds2, rds3, rdSz, rdW, rdB, rdI, rdVec, Vec.of, rdWF, W.ofL, SV.rf, SV.rn, chunk0, chunk1, drop0, W.eta, Sz.eta, Vec.eta, Sz.of, W.of, hdS, tlS, SV.al, SV.iv, SV.bv, constSV, decide_eq_true_eq, decide_eq_false_iff_not] at *)
  all_goals (try simp only [hs, decide_eq_true_eq, decide_eq_false_iff_not] at *)
  all_goals first | omega | (rw [L]; grind) | grind | trace_state
noncomputable def conToward : Con cx := walkCon 93 Tryz.call93 (rds3 rdVec rdVec (rdI .i64)) (fun a => [a.1.x = 0 ∧ a.1.y = 0, InR a.2.1.x ∧ InR a.2.1.y, 1 ≤ a.2.2 ∧ a.2.2 ≤ 65536]) (fun a => (lim a.2.1 a.2.2).sv) (fun _ => noHow) [] (fun _ => rfl) follows Tryz.func93 (by kernel_rfl) Toward_walk
end Go.Proofs.YtbnoejabpmlmdaaGreatDoor.Df
namespace Go.Proofs.YtbnoejabpmlmdaaGreatDoor.Df
open Go.RowKit

def beyond (v : Vec) (m : Int) : Bool := decide (m < max v.x v.y) || decide (min v.x v.y < -m)
set_option maxHeartbeats 2000000 in
set_option maxRecDepth 8000 in
theorem Limit_walk : ∀ a, conj ((fun a => [InR a.1.x ∧ InR a.1.y, 1 ≤ a.2 ∧ a.2 ≤ 65536]) a) → evFn (C := cx) [conToward] [] 0 noHow Tryz.f56 ((rds2 rdVec (rdI .i64)).enc a) fun v H _ => resOut ((fun a => (lim a.1 a.2).sv) a) H v := by
  intro ⟨v, m⟩ ⟨⟨vx, vy⟩, hm⟩
  replace vx : InR v.x := vx
  replace vy : InR v.y := vy
  replace hm : 1 ≤ m ∧ m ≤ 65536 := hm
  repeat' (first | (refine And.intro ?_ ?_) | (intro _))
  all_goals (try (refine Eq.trans ?_ rfl))
  all_goals first | rfl | exact vx.1 | exact vx.2 | exact vy.1 | exact vy.2 | exact hm.1 | exact hm.2 | trace_state
noncomputable def conLimit : Con cx := walkCon 56 Tryz.call56 (rds2 rdVec (rdI .i64)) (fun a => [InR a.1.x ∧ InR a.1.y, 1 ≤ a.2 ∧ a.2 ≤ 65536]) (fun a => (lim a.1 a.2).sv) (fun _ => noHow) [] (fun _ => rfl) follows Tryz.func56 (by kernel_rfl) Limit_walk

set_option maxHeartbeats 2000000 in
set_option maxRecDepth 8000 in
theorem Beyond_walk : ∀ a, conj ((fun a => [0 ≤ a.2 ∧ a.2 ≤ 65536]) a) → evFn (C := cx) [] [] 0 noHow Tryz.f20 ((rds2 rdVec (rdI .i64)).enc a) fun v H _ => resOut ((fun a => .v (.bool (beyond a.1 a.2))) a) H v := by
  intro ⟨v, m⟩ hm
  replace hm : 0 ≤ m ∧ m ≤ 65536 := hm
  repeat' (first | (refine And.intro ?_ ?_) | (intro _))
  all_goals (try (refine Eq.trans ?_ rfl))
  all_goals (try simp only [rds1, rds2, rds3, rdSz, rdW, rdB, rdI, rdVec, Vec.of, Vec.eta, Sz.of, W.of, hdS, tlS, SV.al, SV.iv, SV.bv, constSV, decide_eq_true_eq, decide_eq_false_iff_not] at *)
  all_goals first | rfl | omega | trace_state
noncomputable def conBeyond : Con cx := walkCon 20 Tryz.call20 (rds2 rdVec (rdI .i64)) (fun a => [0 ≤ a.2 ∧ a.2 ≤ 65536]) (fun a => .v (.bool (beyond a.1 a.2))) (fun _ => noHow) [] (fun _ => rfl) follows Tryz.func20 (by kernel_rfl) Beyond_walk
end Go.Proofs.YtbnoejabpmlmdaaGreatDoor.Df
