/- The insertion sort, entered: whatever the comparison's walk is. -/
import Derived.Test.YtcbpajkgmpibgaaC11
namespace Go.Proofs.Ytcbpajkgmpibgaa
open Go.RowKit

set_option maxHeartbeats 20000000 in
set_option maxRecDepth 8000 in
theorem ins_ev {F : Nat → Body} {p q : Vec} {k : Nat} (I : Inl) (hI : CmpI F p q k I) (hlen : (idsK F p q k).length ≤ 20) (a : Nat) (b : Int) (ha : a ≤ 20) (ha0 : a = 0 ∨ (idsK F p q k).length ≤ a) (hb0 : b = (idsK F p q k).length) (K : SV → Heap → Nat → Prop)
    (hK : K (.tup []) (sortH F p q k (sortL (ltK k F p q) (idsK F p q k))) 6) : evC gH I inH ⟨[2004, 1004, 6], [], [1, 4], 0⟩ Try.f66 [.g 4 5 1 0 (idsK F p q k).length, .v (.int .i64 a), .v (.int .i64 b), sortCl] (sortH F p q k (rowD (ltK k F p q) (idsK F p q k) (a + 1))) 6 K := by
  subst hb0
  refine And.intro (by unfold I64; omega : I64 ((a : Int) + 1)) ?_
  refine Exists.intro (insCut F p q k a) ?_
  refine And.intro ?_ ?_
  · refine ⟨(a + 1 : Nat), [], [], trivial, ⟨Nat.le_refl _, by omega⟩, ?_⟩
    repeat' (first | (refine And.intro ?_ ?_) | (intro _) | exact rfl)
  refine fun (i : Nat) (hi : a + 1 ≤ i ∧ (i ≤ (idsK F p q k).length ∨ (idsK F p q k).length ≤ i)) => ?_
  obtain ⟨i1, i2⟩ := hi
  refine And.intro (fun hb => ?_) (fun hb => ?_)
  · have hb : (i : Int) < (idsK F p q k).length := of_decide_eq_true hb
    have hin : i < (idsK F p q k).length := by omega
    obtain rfl : a = 0 := by omega
    obtain ⟨x, hx⟩ : ∃ x, (idsK F p q k)[i] = x := ⟨_, rfl⟩
    refine Exists.intro (inCut F p q k 0 i x) ?_
    refine And.intro ?_ ?_
    · refine ⟨(([] : List Int), isR (ltK k F p q) ((idsK F p q k).take i)), [], [], trivial, ⟨rfl, fun z hz => by cases hz⟩, ?_⟩
      repeat' (first | (refine And.intro ?_ ?_) | (intro _) | exact rfl)
      all_goals first | (show ((isR (ltK k F p q) ((idsK F p q k).take i)).length : Int) = i; rw [isR_len, List.length_take]; omega) | exact congrArg (fun l => List.getD l _ 0) (by rw [rowD_step hin, hx] : (x :: isR (ltK k F p q) ((idsK F p q k).take i)).reverse ++ (idsK F p q k).drop (i + 1) = rowD (ltK k F p q) (idsK F p q k) i)
    refine fun (y : List Int × List Int) (hy : isR (ltK k F p q) ((idsK F p q k).take i) = y.1 ++ y.2 ∧ ∀ z ∈ y.1, ltK k F p q x z = true) => ?_
    obtain ⟨s, r⟩ := y
    obtain ⟨y1, y2⟩ : isR (ltK k F p q) ((idsK F p q k).take i) = s ++ r ∧ ∀ z ∈ s, ltK k F p q x z = true := hy
    have hrl : s.length + r.length = i := by
      have := congrArg List.length y1
      rw [isR_len, List.length_take, List.length_append] at this
      omega
    show ev _ _ _ _ _ _ _ ⟨[(0, ⟨0, 0, [], _⟩), (1, ⟨0, 0, [], _⟩), (2, ⟨0, 0, [], _⟩), (3, ⟨0, 0, [], _⟩), (8, ⟨0, 0, [], _⟩), (9, ⟨0, 0, [], _⟩)], [(0, _), (1, _), (2, _), (3, _), (4, _)], 6, 0, [], []⟩ _
    rcases r with _ | ⟨y, r'⟩
    · have no : ¬ ((0 : Nat) : Int) < (([] : List Int).length : Nat) := by simp
      refine And.intro (fun hg => absurd (of_decide_eq_true hg) no) ?_
      refine And.intro (fun hg => absurd (of_decide_eq_true hg) no) ?_
      refine And.intro (fun hg => absurd (of_decide_eq_true hg) no) ?_
      refine And.intro (fun hg => absurd (of_decide_eq_true hg) no) (imp_of ?_)
      refine And.intro (by unfold I64; omega : I64 ((i : Int) + 1)) ?_
      refine ⟨(i + 1 : Nat), [], [], (by show (idsK F p q k).length - (i + 1) < (idsK F p q k).length - i; omega), ⟨by omega, by omega⟩, ?_⟩
      have hnx := rowD_next (lt := ltK k F p q) (s := s) (r := []) hin y1 (by rw [hx]; exact y2) (.inl rfl)
      rw [hx] at hnx
      repeat' (first | (refine And.intro ?_ ?_) | (intro _) | exact rfl)
      all_goals exact congrArg (fun l => List.getD l _ 0) hnx
    have hrl' : s.length + (r'.length + 1) = i := hrl
    have yes : ((0 : Nat) : Int) < ((y :: r').length : Nat) := by simp only [List.length_cons]; omega
    have len1 : (y :: r').length = r'.length + 1 := rfl
    refine And.intro (fun hg => (⟨by omega, by omega⟩ : 0 ≤ ((y :: r').length : Int) ∧ ((y :: r').length : Int) < (idsK F p q k).length)) ?_
    refine And.intro (fun hg => (by unfold I64; omega : I64 (((y :: r').length : Int) - 1))) ?_
    refine And.intro (fun hg => (⟨by omega, by omega⟩ : 0 ≤ ((y :: r').length : Int) - 1 ∧ ((y :: r').length : Int) - 1 < (idsK F p q k).length)) ?_
    have e0 := revD s r' ((idsK F p q k).drop (i + 1)) x y
    have ea : ((s ++ x :: y :: r').reverse ++ (idsK F p q k).drop (i + 1)).getD (0 + ((y :: r').length : Int).toNat) 0 = x := by rw [e0]; exact getD_at1 _ _ _ _ (by simp)
    have eb : ((s ++ x :: y :: r').reverse ++ (idsK F p q k).drop (i + 1)).getD (0 + (((y :: r').length : Int) - 1).toNat) 0 = y := by rw [e0]; exact getD_at _ _ _ (by simp)
    refine And.intro (imp_of ?_) (fun hg => absurd yes (of_decide_eq_false hg))
    refine hI _ _ _ _ ?_
    have elt : ∀ u v : Int, decide (ordP (lookP F p q k u) (lookP F p q k v) < 0) = ltK k F p q u v := fun u v => by rw [lookP_eq, lookP_eq]; rfl
    refine And.intro (fun hc => ?_) (fun hc => ?_)
    · have hc : decide (ordP (lookP F p q k (((s ++ x :: y :: r').reverse ++ (idsK F p q k).drop (i + 1)).getD (0 + ((y :: r').length : Int).toNat) 0)) (lookP F p q k (((s ++ x :: y :: r').reverse ++ (idsK F p q k).drop (i + 1)).getD (0 + (((y :: r').length : Int) - 1).toNat) 0)) < 0) = true := hc
      rw [ea, eb, elt] at hc
      have g1 : I64 (((y :: r').length : Int) - 1) := by unfold I64; omega
      have g2 : 0 ≤ ((y :: r').length : Int) - 1 ∧ ((y :: r').length : Int) - 1 < (idsK F p q k).length := ⟨by omega, by omega⟩
      have g3 : 0 ≤ ((y :: r').length : Int) ∧ ((y :: r').length : Int) < (idsK F p q k).length := ⟨by omega, by omega⟩
      refine And.intro g1 ?_
      refine And.intro g1 ?_
      refine And.intro g2 ?_
      refine And.intro g3 ?_
      refine And.intro g3 ?_
      refine And.intro (fun _ _ => ⟨rfl, trivial⟩) ?_
      refine And.intro g2 ?_
      refine And.intro (fun _ _ => ⟨rfl, trivial⟩) ?_
      refine And.intro g1 ?_
      refine ⟨(s ++ [y], r'), [], [], (by show r'.length < (y :: r').length; omega), ⟨by rw [y1]; simp, fun z hz => ?_⟩, ?_⟩
      · rcases List.mem_append.1 hz with hz | hz
        · exact y2 z hz
        · obtain rfl : z = y := by simpa using hz
          exact hc
      · repeat' (first | (refine And.intro ?_ ?_) | (intro _) | exact rfl)
        · show ((r'.length : Nat) : Int) = ((y :: r').length : Nat) - 1
          omega
        · have key : ∀ m : Nat, (((s ++ [y]) ++ x :: r').reverse ++ (idsK F p q k).drop (i + 1)).getD m 0 = bif Nat.beq m (0 + (((y :: r').length : Int) - 1).toNat) then ((s ++ x :: y :: r').reverse ++ (idsK F p q k).drop (i + 1)).getD (0 + ((y :: r').length : Int).toNat) 0 else bif Nat.beq m (0 + ((y :: r').length : Int).toNat) then ((s ++ x :: y :: r').reverse ++ (idsK F p q k).drop (i + 1)).getD (0 + (((y :: r').length : Int) - 1).toNat) 0 else ((s ++ x :: y :: r').reverse ++ (idsK F p q k).drop (i + 1)).getD m 0 := fun m => by
            rw [ea, eb, e0, revD2, swapD, List.length_reverse, show 0 + (((y :: r').length : Int) - 1).toNat = r'.length by omega, show 0 + ((y :: r').length : Int).toNat = r'.length + 1 by omega]
          exact key _
    · have hc : decide (ordP (lookP F p q k (((s ++ x :: y :: r').reverse ++ (idsK F p q k).drop (i + 1)).getD (0 + ((y :: r').length : Int).toNat) 0)) (lookP F p q k (((s ++ x :: y :: r').reverse ++ (idsK F p q k).drop (i + 1)).getD (0 + (((y :: r').length : Int) - 1).toNat) 0)) < 0) = false := hc
      rw [ea, eb, elt] at hc
      refine And.intro (by unfold I64; omega : I64 ((i : Int) + 1)) ?_
      refine ⟨(i + 1 : Nat), [], [], (by show (idsK F p q k).length - (i + 1) < (idsK F p q k).length - i; omega), ⟨by omega, by omega⟩, ?_⟩
      have hnx := rowD_next (lt := ltK k F p q) (s := s) (r := y :: r') hin y1 (by rw [hx]; exact y2) (.inr ⟨y, r', rfl, by rw [hx]; exact hc⟩)
      rw [hx] at hnx
      repeat' (first | (refine And.intro ?_ ?_) | (intro _) | exact rfl)
      all_goals exact congrArg (fun l => List.getD l _ 0) hnx
  have hb : ¬ (i : Int) < (idsK F p q k).length := of_decide_eq_false hb
  have hD : rowD (ltK k F p q) (idsK F p q k) i = sortL (ltK k F p q) (idsK F p q k) := rowD_all (by omega)
  rw [← hD] at hK
  exact hK
end Go.Proofs.Ytcbpajkgmpibgaa
