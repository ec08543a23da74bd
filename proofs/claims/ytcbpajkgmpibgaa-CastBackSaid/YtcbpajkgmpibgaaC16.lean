/- filter, Inside, Crossed, SameInts. -/
import Derived.Test.YtcbpajkgmpibgaaC15
namespace Go.Proofs.Ytcbpajkgmpibgaa
open Go.RowKit

/-- The numbers below k for which g holds. -/
def filtL (g : Nat → Bool) : Nat → List Int
  | 0 => []
  | k + 1 => match g k with | true => filtL g k ++ [(k : Int)] | false => filtL g k
theorem filtL_len {g : Nat → Bool} : ∀ k, (filtL g k).length ≤ k
  | 0 => Nat.le_refl _
  | k + 1 => by
    have := filtL_len (g := g) k
    simp only [filtL]
    split
    · simp; omega
    · omega
theorem filtL_yes {g : Nat → Bool} {k : Nat} (h : g k = true) : filtL g (k + 1) = filtL g k ++ [(k : Int)] := by simp only [filtL, h]
theorem filtL_no {g : Nat → Bool} {k : Nat} (h : g k = false) : filtL g (k + 1) = filtL g k := by simp only [filtL, h]
theorem push_get (l : List Int) (x : Int) (i : Nat) (hi : i < l.length + 1) : (l ++ [x]).getD i 0 = bif Nat.ble l.length i then x else l.getD i 0 := by
  simp only [List.getD_eq_getElem?_getD]
  rcases Nat.lt_or_ge i l.length with h1 | h1
  · rw [List.getElem?_append_left h1, show Nat.ble l.length i = false by cases hb : Nat.ble l.length i with | false => rfl | true => exact absurd (Nat.le_of_ble_eq_true hb) (by omega)]
    rfl
  · rw [List.getElem?_append_right h1, show i - l.length = 0 by omega, show Nat.ble l.length i = true from Nat.ble_eq_true_of_le h1]
    rfl
theorem filtL_mem {g : Nat → Bool} {x : Int} : ∀ k, x ∈ filtL g k ↔ ∃ i : Nat, i < k ∧ x = i ∧ g i = true
  | 0 => by simp [filtL]
  | k + 1 => by
    have ih := filtL_mem (g := g) (x := x) k
    simp only [filtL]
    split
    · rename_i h
      rw [List.mem_append, ih, List.mem_singleton]
      constructor
      · rintro (⟨i, h1, h2, h3⟩ | rfl)
        · exact ⟨i, by omega, h2, h3⟩
        · exact ⟨k, by omega, rfl, h⟩
      · rintro ⟨i, h1, h2, h3⟩
        by_cases e : i = k
        · subst e; exact .inr h2
        · exact .inl ⟨i, by omega, h2, h3⟩
    · rename_i h
      rw [ih]
      constructor
      · rintro ⟨i, h1, h2, h3⟩
        exact ⟨i, by omega, h2, h3⟩
      · rintro ⟨i, h1, h2, h3⟩
        refine ⟨i, ?_, h2, h3⟩
        have : i ≠ k := fun e => by subst e; rw [h] at h3; cases h3
        omega
end Go.Proofs.Ytcbpajkgmpibgaa
