/- The insertion sort, entered: whatever the comparison's walk is. The stable sort of at most 20 numbers, entered. -/
import Derived.Test.YtcojfohjdibjjaaGreatDoorQ4
namespace Go.Proofs.YtcojfohjdibjjaaGreatDoor
open Go.RowKit

set_option maxHeartbeats 20000000 in
set_option maxRecDepth 8000 in
theorem ins_ev {F : Nat → Body} {p q : Vec} {k : Nat} (I : Inl) (hI : CmpI F p q k I) (hlen : (idsK F p q k).length ≤ 20) (a : Nat) (b : Int) (ha : a ≤ 20) (ha0 : a = 0 ∨ (idsK F p q k).length ≤ a) (hb0 : b = (idsK F p q k).length) (K : SV → Heap → Nat → Prop)
    (hK : K (.tup []) (sortH F p q k (sortL (ltK k F p q) (idsK F p q k))) 6) : evC gH I inH ⟨[2004, 1004, 6], [], [1, 4], 0⟩ Tryz.f84 [.g 4 5 1 0 (idsK F p q k).length, .v (.int .i64 a), .v (.int .i64 b), sortCl] (sortH F p q k (rowD (ltK k F p q) (idsK F p q k) (a + 1))) 6 K := by
  subst hb0
  refine And.intro (by unfold I64; omega : I64 ((a : Int) + 1)) ?_
  refine Exists.intro (insCut F p q k a) ?_
  refine And.intro ?_ ?_
  · refine ⟨(a + 1 : Nat), [], [], trivial, ⟨Nat.le_refl _, by omega⟩, ?_⟩
    repeat' (first | (refine And.intro ?_ ?_) | (intro _) | exact rfl)
  refine fun (i : Nat) (hi : a + 1 ≤ i ∧ (i ≤ (idsK F p q k).length ∨ (idsK F p q k).length ≤ i)) => ?_
  obtain ⟨i1, i2⟩ := hi
  refine And.intro (fun hb => ?_) (fun hb => ?_)
  · have hb : (i : Int) < (idsK F p q k).length := of_decide_eq_true hb
    have hin : i < (idsK F p q k).length := by omega
    obtain rfl : a = 0 := by omega
    obtain ⟨x, hx⟩ : ∃ x, (idsK F p q k)[i] = x := ⟨_, rfl⟩
    refine Exists.intro (inCut F p q k 0 i x) ?_
    refine And.intro ?_ ?_
    · refine ⟨(([] : List Int), isR (ltK k F p q) ((idsK F p q k).take i)), [], [], trivial, ⟨rfl, fun z hz => by cases hz⟩, ?_⟩
      repeat' (first | (refine And.intro ?_ ?_) | (intro _) | exact rfl)
      all_goals first | (show ((isR (ltK k F p q) ((idsK F p q k).take i)).length : Int) = i; rw [isR_len, List.length_take]; omega) | exact congrArg (fun l => List.getD l _ 0) (by rw [rowD_step hin, hx] : (x :: isR (ltK k F p q) ((idsK F p q k).take i)).reverse ++ (idsK F p q k).drop (i + 1) = rowD (ltK k F p q) (idsK F p q k) i)
    refine fun (y : List Int × List Int) (hy : isR (ltK k F p q) ((idsK F p q k).take i) = y.1 ++ y.2 ∧ ∀ z ∈ y.1, ltK k F p q x z = true) => ?_
    obtain ⟨s, r⟩ := y
    obtain ⟨y1, y2⟩ : isR (ltK k F p q) ((idsK F p q k).take i) = s ++ r ∧ ∀ z ∈ s, ltK k F p q x z = true := hy
    have hrl : s.length + r.length = i := by
      have := congrArg List.length y1
      rw [isR_len, List.length_take, List.length_append] at this
      omega
    show ev _ _ _ _ _ _ _ ⟨[(0, ⟨0, 0, [], _⟩), (1, ⟨0, 0, [], _⟩), (2, ⟨0, 0, [], _⟩), (3, ⟨0, 0, [], _⟩), (8, ⟨0, 0, [], _⟩), (9, ⟨0, 0, [], _⟩)], [(0, _), (1, _), (2, _), (3, _), (4, _)], 6, 0, [], []⟩ _
    rcases r with _ | ⟨y, r'⟩
    · have no : ¬ ((0 : Nat) : Int) < (([] : List Int).length : Nat) := by simp
      refine And.intro (fun hg => absurd (of_decide_eq_true hg) no) ?_
      refine And.intro (fun hg => absurd (of_decide_eq_true hg) no) ?_
      refine And.intro (fun hg => absurd (of_decide_eq_true hg) no) ?_
      refine And.intro (fun hg => absurd (of_decide_eq_true hg) no) (imp_of ?_)
      refine And.intro (by unfold I64; omega : I64 ((i : Int) + 1)) ?_
      refine ⟨(i + 1 : Nat), [], [], (by show (idsK F p q k).length - (i + 1) < (idsK F p q k).length - i; omega), ⟨by omega, by omega⟩, ?_⟩
      have hnx := rowD_next (lt := ltK k F p q) (s := s) (r := []) hin y1 (by rw [hx]; exact y2) (.inl rfl)
      rw [hx] at hnx
      repeat' (first | (refine And.intro ?_ ?_) | (intro _) | exact rfl)
      all_goals exact congrArg (fun l => List.getD l _ 0) hnx
    have hrl' : s.length + (r'.length + 1) = i := hrl
    have yes : ((0 : Nat) : Int) < ((y :: r').length : Nat) := by simp only [List.length_cons]; omega
    have len1 : (y :: r').length = r'.length + 1 := rfl
    refine And.intro (fun hg => (⟨by omega, by omega⟩ : 0 ≤ ((y :: r').length : Int) ∧ ((y :: r').length : Int) < (idsK F p q k).length)) ?_
    refine And.intro (fun hg => (by unfold I64; omega : I64 (((y :: r').length : Int) - 1))) ?_
    refine And.intro (fun hg => (⟨by omega, by omega⟩ : 0 ≤ ((y :: r').length : Int) - 1 ∧ ((y :: r').length : Int) - 1 < (idsK F p q k).length)) ?_
    have e0 := revD s r' ((idsK F p q k).drop (i + 1)) x y
    have ea : ((s ++ x :: y :: r').reverse ++ (idsK F p q k).drop (i + 1)).getD (0 + ((y :: r').length : Int).toNat) 0 = x := by rw [e0]; exact getD_at1 _ _ _ _ (by simp)
    have eb : ((s ++ x :: y :: r').reverse ++ (idsK F p q k).drop (i + 1)).getD (0 + (((y :: r').length : Int) - 1).toNat) 0 = y := by rw [e0]; exact getD_at _ _ _ (by simp)
    refine And.intro (imp_of ?_) (fun hg => absurd yes (of_decide_eq_false hg))
    refine hI _ _ _ _ ?_
    have elt : ∀ u v : Int, decide (ordP (lookP F p q k u) (lookP F p q k v) < 0) = ltK k F p q u v := fun u v => by rw [lookP_eq, lookP_eq]; rfl
    refine And.intro (fun hc => ?_) (fun hc => ?_)
    · have hc : decide (ordP (lookP F p q k (((s ++ x :: y :: r').reverse ++ (idsK F p q k).drop (i + 1)).getD (0 + ((y :: r').length : Int).toNat) 0)) (lookP F p q k (((s ++ x :: y :: r').reverse ++ (idsK F p q k).drop (i + 1)).getD (0 + (((y :: r').length : Int) - 1).toNat) 0)) < 0) = true := hc
      rw [ea, eb, elt] at hc
      have g1 : I64 (((y :: r').length : Int) - 1) := by unfold I64; omega
      have g2 : 0 ≤ ((y :: r').length : Int) - 1 ∧ ((y :: r').length : Int) - 1 < (idsK F p q k).length := ⟨by omega, by omega⟩
      have g3 : 0 ≤ ((y :: r').length : Int) ∧ ((y :: r').length : Int) < (idsK F p q k).length := ⟨by omega, by omega⟩
      refine And.intro g1 ?_
      refine And.intro g1 ?_
      refine And.intro g2 ?_
      refine And.intro g3 ?_
      refine And.intro g3 ?_
      refine And.intro (fun _ _ => ⟨rfl, trivial⟩) ?_
      refine And.intro g2 ?_
      refine And.intro (fun _ _ => ⟨rfl, trivial⟩) ?_
      refine And.intro g1 ?_
      refine ⟨(s ++ [y], r'), [], [], (by show r'.length < (y :: r').length; omega), ⟨by rw [y1]; simp, fun z hz => ?_⟩, ?_⟩
      · rcases List.mem_append.1 hz with hz | hz
        · exact y2 z hz
        · obtain rfl : z = y := by simpa using hz
          exact hc
      · repeat' (first | (refine And.intro ?_ ?_) | (intro _) | exact rfl)
        · show ((r'.length : Nat) : Int) = ((y :: r').length : Nat) - 1
          omega
        · have key : ∀ m : Nat, (((s ++ [y]) ++ x :: r').reverse ++ (idsK F p q k).drop (i + 1)).getD m 0 = bif Nat.beq m (0 + (((y :: r').length : Int) - 1).toNat) then ((s ++ x :: y :: r').reverse ++ (idsK F p q k).drop (i + 1)).getD (0 + ((y :: r').length : Int).toNat) 0 else bif Nat.beq m (0 + ((y :: r').length : Int).toNat) then ((s ++ x :: y :: r').reverse ++ (idsK F p q k).drop (i + 1)).getD (0 + (((y :: r').length : Int) - 1).toNat) 0 else ((s ++ x :: y :: r').reverse ++ (idsK F p q k).drop (i + 1)).getD m 0 := fun m => by
            rw [ea, eb, e0, revD2, swapD, List.length_reverse, show 0 + (((y :: r').length : Int) - 1).toNat = r'.length by omega, show 0 + ((y :: r').length : Int).toNat = r'.length + 1 by omega]
          exact key _
    · have hc : decide (ordP (lookP F p q k (((s ++ x :: y :: r').reverse ++ (idsK F p q k).drop (i + 1)).getD (0 + ((y :: r').length : Int).toNat) 0)) (lookP F p q k (((s ++ x :: y :: r').reverse ++ (idsK F p q k).drop (i + 1)).getD (0 + (((y :: r').length : Int) - 1).toNat) 0)) < 0) = false := hc
      rw [ea, eb, elt] at hc
      refine And.intro (by unfold I64; omega : I64 ((i : Int) + 1)) ?_
      refine ⟨(i + 1 : Nat), [], [], (by show (idsK F p q k).length - (i + 1) < (idsK F p q k).length - i; omega), ⟨by omega, by omega⟩, ?_⟩
      have hnx := rowD_next (lt := ltK k F p q) (s := s) (r := y :: r') hin y1 (by rw [hx]; exact y2) (.inr ⟨y, r', rfl, by rw [hx]; exact hc⟩)
      rw [hx] at hnx
      repeat' (first | (refine And.intro ?_ ?_) | (intro _) | exact rfl)
      all_goals exact congrArg (fun l => List.getD l _ 0) hnx
  have hb : ¬ (i : Int) < (idsK F p q k).length := of_decide_eq_false hb
  have hD : rowD (ltK k F p q) (idsK F p q k) i = sortL (ltK k F p q) (idsK F p q k) := rowD_all (by omega)
  rw [← hD] at hK
  exact hK
end Go.Proofs.YtcojfohjdibjjaaGreatDoor
namespace Go.Proofs.YtcojfohjdibjjaaGreatDoor
open Go.RowKit

/-- The insertion sort, entered. -/
def InsI (F : Nat → Body) (p q : Vec) (k : Nat) (I : Inl) : Prop := ∀ (a : Nat) (b : Int) (D : List Int) (K : SV → Heap → Nat → Prop), a ≤ 20 → (a = 0 ∨ (idsK F p q k).length ≤ a) → b = (idsK F p q k).length → D = rowD (ltK k F p q) (idsK F p q k) (a + 1) → K (.tup []) (sortH F p q k (sortL (ltK k F p q) (idsK F p q k))) 6 →
  I 84 [.g 4 5 1 0 (idsK F p q k).length, .v (.int .i64 a), .v (.int .i64 b), sortCl] (sortH F p q k D) 6 K
def StbI (F : Nat → Body) (p q : Vec) (k : Nat) (I : Inl) : Prop := ∀ (K : SV → Heap → Nat → Prop), K (.tup []) (sortH F p q k (sortL (ltK k F p q) (idsK F p q k))) 6 →
  I 59 [.g 4 5 1 0 (idsK F p q k).length, .v (.int .i64 (idsK F p q k).length), sortCl] (sortH F p q k (idsK F p q k)) 6 K
/-- What the first loop keeps. -/
def stInv (F : Nat → Body) (p q : Vec) (n : Nat) : Cut := ⟨Nat × List Int, fun x => (x.1 = 0 ∧ x.2 = idsK F p q n) ∨ (x.1 = 20 ∧ x.2 = sortL (ltK n F p q) (idsK F p q n) ∧ (idsK F p q n).length = 20),
  fun x => ⟨[sl 0 (.g 4 5 1 0 (idsK F p q n).length), sl 1 (.v (.int .i64 (idsK F p q n).length)), sl 2 sortCl, sl 6 (.v (.int .i64 20)), sl 7 (.v (.int .i64 x.1)), sl 8 (.v (.int .i64 (x.1 + 20 : Nat)))], sortH F p q n x.2, 6, 0, [], []⟩, fun x => 20 - x.1⟩
set_option maxHeartbeats 20000000 in
set_option maxRecDepth 8000 in
theorem stable_ev {F : Nat → Body} {p q : Vec} {k : Nat} (I : Inl) (hI : InsI F p q k I) (hlen : (idsK F p q k).length ≤ 20) (K : SV → Heap → Nat → Prop)
    (hK : K (.tup []) (sortH F p q k (sortL (ltK k F p q) (idsK F p q k))) 6) : evC gH I inH ⟨[], [], [2], 2⟩ Tryz.f59 [.g 4 5 1 0 (idsK F p q k).length, .v (.int .i64 (idsK F p q k).length), sortCl] (sortH F p q k (idsK F p q k)) 6 K := by
  refine Exists.intro (stInv F p q k) ?_
  refine And.intro ?_ ?_
  · refine ⟨((0 : Nat), idsK F p q k), [], [], trivial, .inl ⟨rfl, rfl⟩, ?_⟩
    repeat' (first | (refine And.intro ?_ ?_) | (intro _) | exact rfl)
  refine fun (x : Nat × List Int) (hx : (x.1 = 0 ∧ x.2 = idsK F p q k) ∨ (x.1 = 20 ∧ x.2 = sortL (ltK k F p q) (idsK F p q k) ∧ (idsK F p q k).length = 20)) => ?_
  obtain ⟨a, D⟩ := x
  have hx : (a = 0 ∧ D = idsK F p q k) ∨ (a = 20 ∧ D = sortL (ltK k F p q) (idsK F p q k) ∧ (idsK F p q k).length = 20) := hx
  refine And.intro (fun hb => ?_) (fun hb => ?_)
  · have hb : ((a + 20 : Nat) : Int) ≤ (idsK F p q k).length := of_decide_eq_true hb
    have h0 : a = 0 := by omega
    have h20 : (idsK F p q k).length = 20 := by omega
    subst h0
    obtain rfl : D = idsK F p q k := by
      rcases hx with hx | hx
      · exact hx.2
      · omega
    refine hI 0 _ _ _ (by omega) (.inl rfl) (by rw [h20]) (rowD_one _ _).symm ?_
    refine And.intro (by unfold I64; omega : I64 (((0 + 20 : Nat) : Int) + 20)) ?_
    refine ⟨((20 : Nat), sortL (ltK k F p q) (idsK F p q k)), [], [], (by show 20 - 20 < 20 - 0; omega), .inr ⟨rfl, rfl, h20⟩, ?_⟩
    repeat' (first | (refine And.intro ?_ ?_) | (intro _) | exact rfl)
  · have hb : ¬ ((a + 20 : Nat) : Int) ≤ (idsK F p q k).length := of_decide_eq_false hb
    have ho : ∀ K' : SV → Heap → Nat → Prop, K' (.tup []) (sortH F p q k (sortL (ltK k F p q) (idsK F p q k))) 6 → I 84 [.g 4 5 1 0 (idsK F p q k).length, .v (.int .i64 a), .v (.int .i64 (idsK F p q k).length), sortCl] (sortH F p q k D) 6 K' := fun K' hK' => by
      refine hI a _ D K' (by omega) (by omega) rfl ?_ hK'
      rcases hx with ⟨rfl, rfl⟩ | ⟨rfl, rfl, hl⟩
      · exact (rowD_one _ _).symm
      · exact (rowD_all (by omega)).symm
    refine ho _ ?_
    refine And.intro (fun hc => ?_) (fun hc => ?_)
    · have hc : (20 : Int) < (idsK F p q k).length := of_decide_eq_true hc
      omega
    · exact hK
def SortI (F : Nat → Body) (p q : Vec) (k : Nat) (I : Inl) : Prop := ∀ (K : SV → Heap → Nat → Prop), K (.tup []) (sortH F p q k (sortL (ltK k F p q) (idsK F p q k))) 6 → I 31 [.g 4 5 1 0 (idsK F p q k).length, sortCl] (sortH F p q k (idsK F p q k)) 6 K
set_option maxHeartbeats 20000000 in
set_option maxRecDepth 8000 in
theorem sort_ev {F : Nat → Body} {p q : Vec} {k : Nat} (I : Inl) (hI : StbI F p q k I) (K : SV → Heap → Nat → Prop)
    (hK : K (.tup []) (sortH F p q k (sortL (ltK k F p q) (idsK F p q k))) 6) : evC gH I inH ⟨[], [], [], 0⟩ Tryz.f31 [.g 4 5 1 0 (idsK F p q k).length, sortCl] (sortH F p q k (idsK F p q k)) 6 K := by
  refine hI _ ?_
  exact hK
noncomputable def fsH : List (FnI cx) := [inSort, inStable, inIns, inHits1]
/-- The whole sort, entered. -/
theorem sort_inl {F : Nat → Body} {p q : Vec} {k : Nat} (ip : p.In) (iq : q.In) (hs : shortB p q = true) (hok : ∀ i, i < k → (F i).ok = true) (hlen : (idsK F p q k).length ≤ 20) : SortI F p q k (inlD gH fsH 4) := by
  have h1 : CmpI F p q k (inlD gH fsH 1) := fun a b D K hK => hits1_ev ip iq hs hok (inlD gH fsH 0) a b D K hK
  have h2 : InsI F p q k (inlD gH fsH 2) := fun a b D K h1' h2' h3' h4' hK => by
    subst h4'
    exact ins_ev (inlD gH fsH 1) h1 hlen a b h1' h2' h3' K hK
  have h3 : StbI F p q k (inlD gH fsH 3) := fun K hK => stable_ev (inlD gH fsH 2) h2 hlen K hK
  exact fun K hK => sort_ev (inlD gH fsH 3) h3 K hK
end Go.Proofs.YtcojfohjdibjjaaGreatDoor
