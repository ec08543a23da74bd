/- Before; lists of ids in order. -/
import Derived.Test.YtcbpajkgmpibgaaC9
namespace Go.Proofs.Ytcbpajkgmpibgaa
open Go.RowKit

def beforeE (a b : Body) (p q : Vec) : Int × Int := match decide (¬ wrongE p q 2 (twoB a b) = 0) with
  | true => (0, wrongE p q 2 (twoB a b))
  | false => match !(whereP a p q).2 || !(whereP b p q).2 with
    | true => (0, 6)
    | false => (ordP (whereP a p q).1 (whereP b p q).1, 0)
set_option maxHeartbeats 2000000 in
set_option maxRecDepth 8000 in
theorem Before_walk : ∀ a, conj ((fun _ => []) a) → evFn (C := cx) [conWrong, conWhere, conOrd] [] 0 noHow Try.f17 (((rds4 rdBody rdBody rdVec rdVec)).enc a) fun v H _ => resOut ((fun a => .tup [.v (.int .i64 (beforeE a.1 a.2.1 a.2.2.1 a.2.2.2).1), .v (.int .i64 (beforeE a.1 a.2.1 a.2.2.1 a.2.2.2).2)]) a) H v := by
  intro ⟨a, b, p, q⟩ _
  have two : ((2 : Nat) : Int) ≤ 1000000 := by decide
  refine And.intro ⟨two_al trivial trivial, two⟩ ?_
  refine And.intro (fun h1 => ?_) (fun h1 => ?_)
  · have h1 : decide (¬ wrongE p q 2 (twoB a b) = 0) = true := h1
    have he : beforeE a b p q = (0, wrongE p q 2 (twoB a b)) := by unfold beforeE; rw [h1]
    simp only [he]
    repeat' (first | (refine And.intro ?_ ?_) | (intro _) | exact rfl)
  have h1 : decide (¬ wrongE p q 2 (twoB a b) = 0) = false := h1
  obtain ⟨k1, k2, k3, k4, k5⟩ := two_ok (by simpa using h1)
  refine And.intro ⟨k3, k1, k2, k5⟩ ?_
  refine And.intro ⟨k4, k1, k2, k5⟩ ?_
  refine And.intro (fun h2 => ?_) (fun h2 => ?_)
  · have h2 : (!(whereP a p q).2 || !(whereP b p q).2) = true := h2
    have he : beforeE a b p q = (0, 6) := by unfold beforeE; rw [h1, h2]
    simp only [he]
    repeat' (first | (refine And.intro ?_ ?_) | (intro _) | exact rfl)
  have h2 : (!(whereP a p q).2 || !(whereP b p q).2) = false := h2
  have he : beforeE a b p q = (ordP (whereP a p q).1 (whereP b p q).1, 0) := by unfold beforeE; rw [h1, h2]
  simp only [he]
  refine And.intro ⟨where_in k3 k1 k2 k5, where_in k4 k1 k2 k5⟩ ?_
  repeat' (first | (refine And.intro ?_ ?_) | (intro _) | exact rfl)
noncomputable def conBefore : Con cx := walkCon 17 Try.call17 (rds4 rdBody rdBody rdVec rdVec) (fun _ => []) (fun a => .tup [.v (.int .i64 (beforeE a.1 a.2.1 a.2.2.1 a.2.2.2).1), .v (.int .i64 (beforeE a.1 a.2.1 a.2.2.1 a.2.2.2).2)]) (fun _ => noHow) [] (fun _ => rfl) follows Try.func17 (by kernel_rfl) Before_walk
end Go.Proofs.Ytcbpajkgmpibgaa
