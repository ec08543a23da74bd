/- The stable sort of at most 20 numbers, entered. -/
import Derived.Test.YtcbpajkgmpibgaaC12
namespace Go.Proofs.Ytcbpajkgmpibgaa
open Go.RowKit

/-- The insertion sort, entered. -/
def InsI (F : Nat → Body) (p q : Vec) (k : Nat) (I : Inl) : Prop := ∀ (a : Nat) (b : Int) (D : List Int) (K : SV → Heap → Nat → Prop), a ≤ 20 → (a = 0 ∨ (idsK F p q k).length ≤ a) → b = (idsK F p q k).length → D = rowD (ltK k F p q) (idsK F p q k) (a + 1) → K (.tup []) (sortH F p q k (sortL (ltK k F p q) (idsK F p q k))) 6 →
  I 66 [.g 4 5 1 0 (idsK F p q k).length, .v (.int .i64 a), .v (.int .i64 b), sortCl] (sortH F p q k D) 6 K
def StbI (F : Nat → Body) (p q : Vec) (k : Nat) (I : Inl) : Prop := ∀ (K : SV → Heap → Nat → Prop), K (.tup []) (sortH F p q k (sortL (ltK k F p q) (idsK F p q k))) 6 →
  I 54 [.g 4 5 1 0 (idsK F p q k).length, .v (.int .i64 (idsK F p q k).length), sortCl] (sortH F p q k (idsK F p q k)) 6 K
/-- What the first loop keeps. -/
def stInv (F : Nat → Body) (p q : Vec) (n : Nat) : Cut := ⟨Nat × List Int, fun x => (x.1 = 0 ∧ x.2 = idsK F p q n) ∨ (x.1 = 20 ∧ x.2 = sortL (ltK n F p q) (idsK F p q n) ∧ (idsK F p q n).length = 20),
  fun x => ⟨[sl 0 (.g 4 5 1 0 (idsK F p q n).length), sl 1 (.v (.int .i64 (idsK F p q n).length)), sl 2 sortCl, sl 6 (.v (.int .i64 20)), sl 7 (.v (.int .i64 x.1)), sl 8 (.v (.int .i64 (x.1 + 20 : Nat)))], sortH F p q n x.2, 6, 0, [], []⟩, fun x => 20 - x.1⟩
set_option maxHeartbeats 20000000 in
set_option maxRecDepth 8000 in
theorem stable_ev {F : Nat → Body} {p q : Vec} {k : Nat} (I : Inl) (hI : InsI F p q k I) (hlen : (idsK F p q k).length ≤ 20) (K : SV → Heap → Nat → Prop)
    (hK : K (.tup []) (sortH F p q k (sortL (ltK k F p q) (idsK F p q k))) 6) : evC gH I inH ⟨[], [], [2], 2⟩ Try.f54 [.g 4 5 1 0 (idsK F p q k).length, .v (.int .i64 (idsK F p q k).length), sortCl] (sortH F p q k (idsK F p q k)) 6 K := by
  refine Exists.intro (stInv F p q k) ?_
  refine And.intro ?_ ?_
  · refine ⟨((0 : Nat), idsK F p q k), [], [], trivial, .inl ⟨rfl, rfl⟩, ?_⟩
    repeat' (first | (refine And.intro ?_ ?_) | (intro _) | exact rfl)
  refine fun (x : Nat × List Int) (hx : (x.1 = 0 ∧ x.2 = idsK F p q k) ∨ (x.1 = 20 ∧ x.2 = sortL (ltK k F p q) (idsK F p q k) ∧ (idsK F p q k).length = 20)) => ?_
  obtain ⟨a, D⟩ := x
  have hx : (a = 0 ∧ D = idsK F p q k) ∨ (a = 20 ∧ D = sortL (ltK k F p q) (idsK F p q k) ∧ (idsK F p q k).length = 20) := hx
  refine And.intro (fun hb => ?_) (fun hb => ?_)
  · have hb : ((a + 20 : Nat) : Int) ≤ (idsK F p q k).length := of_decide_eq_true hb
    have h0 : a = 0 := by omega
    have h20 : (idsK F p q k).length = 20 := by omega
    subst h0
    obtain rfl : D = idsK F p q k := by
      rcases hx with hx | hx
      · exact hx.2
      · omega
    refine hI 0 _ _ _ (by omega) (.inl rfl) (by rw [h20]) (rowD_one _ _).symm ?_
    refine And.intro (by unfold I64; omega : I64 (((0 + 20 : Nat) : Int) + 20)) ?_
    refine ⟨((20 : Nat), sortL (ltK k F p q) (idsK F p q k)), [], [], (by show 20 - 20 < 20 - 0; omega), .inr ⟨rfl, rfl, h20⟩, ?_⟩
    repeat' (first | (refine And.intro ?_ ?_) | (intro _) | exact rfl)
  · have hb : ¬ ((a + 20 : Nat) : Int) ≤ (idsK F p q k).length := of_decide_eq_false hb
    have ho : ∀ K' : SV → Heap → Nat → Prop, K' (.tup []) (sortH F p q k (sortL (ltK k F p q) (idsK F p q k))) 6 → I 66 [.g 4 5 1 0 (idsK F p q k).length, .v (.int .i64 a), .v (.int .i64 (idsK F p q k).length), sortCl] (sortH F p q k D) 6 K' := fun K' hK' => by
      refine hI a _ D K' (by omega) (by omega) rfl ?_ hK'
      rcases hx with ⟨rfl, rfl⟩ | ⟨rfl, rfl, hl⟩
      · exact (rowD_one _ _).symm
      · exact (rowD_all (by omega)).symm
    refine ho _ ?_
    refine And.intro (fun hc => ?_) (fun hc => ?_)
    · have hc : (20 : Int) < (idsK F p q k).length := of_decide_eq_true hc
      omega
    · exact hK
def SortI (F : Nat → Body) (p q : Vec) (k : Nat) (I : Inl) : Prop := ∀ (K : SV → Heap → Nat → Prop), K (.tup []) (sortH F p q k (sortL (ltK k F p q) (idsK F p q k))) 6 → I 34 [.g 4 5 1 0 (idsK F p q k).length, sortCl] (sortH F p q k (idsK F p q k)) 6 K
set_option maxHeartbeats 20000000 in
set_option maxRecDepth 8000 in
theorem sort_ev {F : Nat → Body} {p q : Vec} {k : Nat} (I : Inl) (hI : StbI F p q k I) (K : SV → Heap → Nat → Prop)
    (hK : K (.tup []) (sortH F p q k (sortL (ltK k F p q) (idsK F p q k))) 6) : evC gH I inH ⟨[], [], [], 0⟩ Try.f34 [.g 4 5 1 0 (idsK F p q k).length, sortCl] (sortH F p q k (idsK F p q k)) 6 K := by
  refine hI _ ?_
  exact hK
noncomputable def fsH : List (FnI cx) := [inSort, inStable, inIns, inHits1]
/-- The whole sort, entered. -/
theorem sort_inl {F : Nat → Body} {p q : Vec} {k : Nat} (ip : p.In) (iq : q.In) (hs : shortB p q = true) (hok : ∀ i, i < k → (F i).ok = true) (hlen : (idsK F p q k).length ≤ 20) : SortI F p q k (inlD gH fsH 4) := by
  have h1 : CmpI F p q k (inlD gH fsH 1) := fun a b D K hK => hits1_ev ip iq hs hok (inlD gH fsH 0) a b D K hK
  have h2 : InsI F p q k (inlD gH fsH 2) := fun a b D K h1' h2' h3' h4' hK => by
    subst h4'
    exact ins_ev (inlD gH fsH 1) h1 hlen a b h1' h2' h3' K hK
  have h3 : StbI F p q k (inlD gH fsH 3) := fun K hK => stable_ev (inlD gH fsH 2) h2 hlen K hK
  exact fun K hK => sort_ev (inlD gH fsH 3) h3 K hK
end Go.Proofs.Ytcbpajkgmpibgaa
