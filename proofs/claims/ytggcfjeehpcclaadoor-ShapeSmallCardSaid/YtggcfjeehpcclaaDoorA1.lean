/- First contracts of package shape: between, square, abs. -/
import Derived.Test.YtggcfjeehpcclaaDoorA0
namespace Go.Proofs.YtggcfjeehpcclaaDoor
open Go.RowKit

theorem square_any (x y : Int) (w : World) (hx : 0 ≤ x * x) (hx' : x * x ≤ 4000000000000000000) (hy : 0 ≤ y * y) (hy' : y * y ≤ 4000000000000000000) :
    Calls Tryd.prog 38 #[.int .i64 x, .int .i64 y] w fun e w' => e = .returned (.int .i64 (x * x + y * y)) ∧ w = w' := by
  go_enter Tryd.func38, Tryd.ntmps38
  go_wp2
  go_ret
  exact ⟨rfl, rfl⟩

theorem abs_any (x : Int) (w : World) (hx : -9223372036854775807 ≤ x) (hx' : x ≤ 9223372036854775807) :
    Calls Tryd.prog 42 #[.int .i64 x] w fun e w' => e = .returned (.int .i64 (max x (-x))) ∧ w = w' := by
  go_enter Tryd.func42, Tryd.ntmps42
  go_wp2
  all_goals
    go_ret
    exact ⟨ret_int (by omega), rfl⟩

def allIn (lo hi : Int) (l : List Int) : Bool := l.all fun x => decide (lo ≤ x) && decide (x ≤ hi)

theorem allIn_no {lo hi : Int} {l : List Int} {k : Nat} (hk : k < l.length) (h : l.getD k 0 < lo ∨ hi < l.getD k 0) : allIn lo hi l = false := by
  unfold allIn
  rw [List.all_eq_false]
  refine ⟨l[k], List.getElem_mem hk, ?_⟩
  rw [List.getD_eq_getElem?_getD, List.getElem?_eq_getElem hk] at h
  simp at h ⊢
  omega

theorem allIn_yes {lo hi : Int} {l : List Int} (h : ∀ j, j < l.length → lo ≤ l.getD j 0 ∧ l.getD j 0 ≤ hi) : allIn lo hi l = true := by
  unfold allIn
  rw [List.all_eq_true]
  intro x hx
  obtain ⟨j, hj, rfl⟩ := List.getElem_of_mem hx
  have := h j hj
  rw [List.getD_eq_getElem?_getD, List.getElem?_eq_getElem hj] at this
  simp at this ⊢
  omega

theorem between_any (lo hi : Int) (b n c : Nat) (l : List Int) (w : World) (hn : l.length = n) (hm : n ≤ 1000)
    (hc : ∀ k, k < n → w.cell? ⟨b, k, none⟩ = some (.int .i64 (l.getD k 0))) :
    Calls Tryd.prog 37 #[.int .i64 lo, .int .i64 hi, .slice (some ⟨b, 0, none⟩) n c] w fun e w' => e = .returned (.bool (allIn lo hi l)) ∧ w = w' := by
  have HC := Lib.hid hc
  have HN := Lib.hid hn
  clear hc hn
  go_enter Tryd.func37, Tryd.ntmps37
  go_wp2
  go_loop [11] (fun i => ∃ k : Nat, k ≤ n ∧ i = .int .i64 k ∧ Hid (∀ j, j < k → lo ≤ l.getD j 0 ∧ l.getD j 0 ≤ hi)) (fun i => n - (intOf i).toNat)
  case atStart => exact ⟨0, by omega, rfl, fun j hj => by omega⟩
  case round =>
    obtain ⟨k, hk, rfl, HR⟩ := hrel
    by_cases hlt : k < n
    · have hcell := HC.out k hlt
      generalize hg : l.getD k 0 = x at hcell
      have HG := Lib.hid hg
      clear hg
      by_cases h1 : x < lo
      · go_wp2
        go_ret
        exact ⟨ret_bool (allIn_no (k := k) (by rw [HN.out]; exact hlt) (by rw [HG.out]; omega)).symm, rfl⟩
      · by_cases h2 : hi < x
        · go_wp2
          go_ret
          exact ⟨ret_bool (allIn_no (k := k) (by rw [HN.out]; exact hlt) (by rw [HG.out]; omega)).symm, rfl⟩
        · go_wp2
          go_round
          case rel => 
            refine ⟨k + 1, by omega, by go_num, fun j hj => ?_⟩
            by_cases e : j = k
            · subst e; rw [HG.out]; omega
            · exact HR.out j (by omega)
          case measure => simp [intOf]; omega
    · go_wp2
      go_ret
      exact ⟨ret_bool (allIn_yes (fun j hj => HR.out j (by rw [HN.out] at hj; omega))).symm, rfl⟩
end Go.Proofs.YtggcfjeehpcclaaDoor
