/- vec.Limit. vec.Limit; beyond; the lists of Check. -/
import Derived.Test.YtjdohgcolhpegaaGreatDoorM18
import Derived.Test.YtjdohgcolhpegaaGreatDoorM3
namespace Go.Proofs.YtjdohgcolhpegaaGreatDoor.Df
open Go.RowKit

theorem lt2 {i : Nat} (h : i < 2) : i = 0 ∨ i = 1 := by omega
theorem chunk0 {a b c : SV} {r : List SV} : chunk (a :: b :: c :: r) 3 0 = [a, b, c] := rfl
theorem chunk1 {a b c d x f : SV} {r : List SV} : chunk (a :: b :: c :: d :: x :: f :: r) 3 1 = [d, x, f] := rfl
theorem drop0 {l : List SV} : List.drop 0 l = l := rfl
theorem W.eta (a : W) : (⟨a.hi, a.lo, a.neg⟩ : W) = a := rfl
theorem Sz.eta (a : Sz) : (⟨a.hi, a.lo⟩ : Sz) = a := rfl
theorem Vec.eta (a : Vec) : (⟨a.x, a.y⟩ : Vec) = a := rfl
def farOf (v : Vec) : W := wFar (wDiff v.x 0) (wDiff v.y 0)
def lim1 (n m : Int) (f : W) : W := wTrunc (wMul (wDiff n 0) (wOf m)) f
def lim (v : Vec) (m : Int) : Vec := if v.x = 0 ∧ v.y = 0 then ⟨0, 0⟩ else if szLess ⟨(wOf m).hi, (wOf m).lo⟩ ⟨(farOf v).hi, (farOf v).lo⟩ then ⟨wSat (lim1 v.x m (farOf v)), wSat (lim1 v.y m (farOf v))⟩ else v
theorem farOf_ok {v : Vec} (hx : InR v.x) (hy : InR v.y) : (farOf v).hi = 0 ∧ (farOf v).lo < 18446744073709551616 ∧ v.x.natAbs ≤ (farOf v).lo ∧ v.y.natAbs ≤ (farOf v).lo ∧ (farOf v).neg = false := by
  unfold InR at hx hy
  simp only [farOf, wFar, wDiff, szLess]
  split <;> rename_i h <;> simp at h ⊢ <;> omega
theorem lim1_ok {n m : Int} {f : W} (hn : InR n) (hm : 1 ≤ m ∧ m ≤ 65536) (h0 : 1 ≤ f.lo) (hf : (n.natAbs : Int) ≤ f.lo) : (lim1 n m f).hi = 0 ∧ 0 ≤ (lim1 n m f).lo ∧ (lim1 n m f).lo ≤ m ∧ ((lim1 n m f).neg = true → ¬ ((lim1 n m f).hi = 0 ∧ (lim1 n m f).lo = 0)) := by
  unfold InR at hn
  have e : (wMul (wDiff n 0) (wOf m)).hi * 18446744073709551616 + (wMul (wDiff n 0) (wOf m)).lo = n.natAbs * m := by
    simp only [wMul, wMade, szTimes, wDiff, wOf]
    rw [show ((n - 0).natAbs : Int) = n.natAbs by omega, show ((m.natAbs : Nat) : Int) = m by omega]
    omega
  have hq : (n.natAbs : Int) * m / f.lo ≤ m := by
    refine Int.ediv_le_of_le_mul (by omega) ?_
    rw [Int.mul_comm]
    exact Int.mul_le_mul_of_nonneg_left hf (by omega)
  have hq0 : 0 ≤ (n.natAbs : Int) * m / f.lo := Int.ediv_nonneg (Int.mul_nonneg (by omega) (by omega)) (by omega)
  have e1 : (lim1 n m f).hi = (n.natAbs : Int) * m / f.lo / 18446744073709551616 := by
    show (szDiv ⟨_, _⟩ f.lo).hi = _
    simp only [szDiv, e]
  have e2 : (lim1 n m f).lo = (n.natAbs : Int) * m / f.lo % 18446744073709551616 := by
    show (szDiv ⟨_, _⟩ f.lo).lo = _
    simp only [szDiv, e]
  refine ⟨by omega, by omega, by omega, fun h => ?_⟩
  have : (wMade (szDiv ⟨(wMul (wDiff n 0) (wOf m)).hi, (wMul (wDiff n 0) (wOf m)).lo⟩ f.lo) ((wMul (wDiff n 0) (wOf m)).neg != f.neg)).neg = true := h
  simp only [wMade, Bool.and_eq_true, Bool.not_eq_true', Bool.and_eq_false_iff, decide_eq_false_iff_not] at this
  intro hc
  have h1 : (szDiv ⟨(wMul (wDiff n 0) (wOf m)).hi, (wMul (wDiff n 0) (wOf m)).lo⟩ f.lo).hi = 0 := hc.1
  have h2 : (szDiv ⟨(wMul (wDiff n 0) (wOf m)).hi, (wMul (wDiff n 0) (wOf m)).lo⟩ f.lo).lo = 0 := hc.2
  omega
theorem wMul_in {a b : W} (ha : 0 ≤ a.lo ∧ a.lo < 18446744073709551616) (hb : 0 ≤ b.lo ∧ b.lo < 4294967296) : (wMul a b).In := by
  have h0 : 0 ≤ a.lo * b.lo := Int.mul_nonneg ha.1 hb.1
  have h1 : a.lo * b.lo ≤ 18446744073709551615 * 4294967295 := Int.mul_le_mul (by omega) (by omega) hb.1 (by omega)
  simp only [W.In, u64, wMul, wMade, szTimes]
  omega
theorem less_far {v : Vec} {m : Int} (f1 : (farOf v).hi = 0) (hm : 1 ≤ m ∧ m ≤ 65536) : szLess ⟨(wOf m).hi, (wOf m).lo⟩ ⟨(farOf v).hi, (farOf v).lo⟩ = decide (m < (farOf v).lo) := by
  have h : ((m.natAbs : Nat) : Int) = m := by omega
  simp [szLess, wOf, f1, h]
theorem lim_ok {v : Vec} {m : Int} (hx : InR v.x) (hy : InR v.y) (hm : 1 ≤ m ∧ m ≤ 65536) : -m ≤ (lim v m).x ∧ (lim v m).x ≤ m ∧ -m ≤ (lim v m).y ∧ (lim v m).y ≤ m := by
  obtain ⟨f1, f2, f3, f4, -⟩ := farOf_ok hx hy
  have hs := less_far (m := m) f1 hm
  unfold lim
  rw [hs]
  split
  · simp only; omega
  · split
    · rename_i h
      have h := of_decide_eq_true h
      have a := lim1_ok (f := farOf v) hx hm (by omega) f3
      have b := lim1_ok (f := farOf v) hy hm (by omega) f4
      simp only [wSat]
      repeat' split
      all_goals omega
    · rename_i h
      have h : ¬ m < (farOf v).lo := fun hc => h (decide_eq_true hc)
      omega
end Go.Proofs.YtjdohgcolhpegaaGreatDoor.Df
namespace Go.Proofs.YtjdohgcolhpegaaGreatDoor.Df
open Go.RowKit

def beyond (v : Vec) (m : Int) : Bool := decide (m < max v.x v.y) || decide (min v.x v.y < -m)
end Go.Proofs.YtjdohgcolhpegaaGreatDoor.Df
