/- wrong, Meets, Part, Before. -/
import Derived.Test.YtcbpajkgmpibgaaC7
namespace Go.Proofs.Ytcbpajkgmpibgaa
open Go.RowKit

/-- A list of bodies. -/
def rdBodies : Rd (Nat × (Nat → Body)) := ⟨.rs 9 0 fun _ => rdBody.pat.al, fun x => (x.rn, fun i => Body.of (.agg (x.rf i))), fun a => .rs 9 a.1 fun i => (a.2 i).cells, fun _ => rfl⟩
def badN (F : Nat → Body) : Nat → Nat → Bool
  | _, 0 => false
  | k, r + 1 => match !(F k).ok with | true => true | false => badN F (k + 1) r
theorem badN_step {F : Nat → Body} {k n : Nat} (h : k < n) : badN F k (n - k) = match !(F k).ok with | true => true | false => badN F (k + 1) (n - (k + 1)) := by
  rw [show n - k = (n - (k + 1)) + 1 by omega]; rfl
theorem badN_no {F : Nat → Body} : ∀ {r k : Nat}, badN F k r = false → ∀ i, k ≤ i → i < k + r → (F i).ok = true
  | 0, k, _, i, h1, h2 => by omega
  | r + 1, k, h, i, h1, h2 => by
    simp only [badN] at h
    split at h
    · cases h
    · rename_i hk
      rcases Nat.eq_or_lt_of_le h1 with rfl | h1
      · simpa using hk
      · exact badN_no h i h1 (by omega)
theorem badN_of {F : Nat → Body} : ∀ {r k : Nat}, (∀ i, k ≤ i → i < k + r → (F i).ok = true) → badN F k r = false
  | 0, k, _ => rfl
  | r + 1, k, h => by
    simp only [badN, h k (Nat.le_refl _) (by omega), Bool.not_true]
    exact badN_of fun i h1 h2 => h i (by omega) (by omega)
def wrongE (p q : Vec) (n : Nat) (F : Nat → Body) : Int := match !p.inB with
  | true => 2
  | false => match !q.inB with
    | true => 2
    | false => match badN F 0 n with
      | true => 2
      | false => match !shortB p q with
        | true => 3
        | false => 0
theorem wrongE_ok {p q : Vec} {n : Nat} {F : Nat → Body} (h : wrongE p q n F = 0) : p.In ∧ q.In ∧ (∀ i, i < n → (F i).ok = true) ∧ shortB p q = true := by
  unfold wrongE at h
  split at h
  · cases h
  · rename_i h1
    split at h
    · cases h
    · rename_i h2
      split at h
      · cases h
      · rename_i h3
        split at h
        · cases h
        · rename_i h4
          exact ⟨Vec.In.of (by simpa using h1), Vec.In.of (by simpa using h2), fun i hi => badN_no h3 i (Nat.zero_le _) (by omega), by simpa using h4⟩
theorem wrongE_of {p q : Vec} {n : Nat} {F : Nat → Body} (h1 : p.In) (h2 : q.In) (h3 : ∀ i, i < n → (F i).ok = true) (h4 : shortB p q = true) : wrongE p q n F = 0 := by
  unfold wrongE
  rw [Vec.inB_of h1, Vec.inB_of h2, badN_of fun i _ hi => h3 i (by omega), h4]
  rfl
theorem wrongE_rng (p q : Vec) (n : Nat) (F : Nat → Body) : wrongE p q n F = 0 ∨ wrongE p q n F = 2 ∨ wrongE p q n F = 3 := by
  unfold wrongE
  repeat' split
  all_goals simp
noncomputable def inContains : FnI cx := ⟨52, Try.call52, Try.f52, Try.func52, [], [], [], 0, by kernel_rfl⟩
noncomputable def inIndex : FnI cx := ⟨65, Try.call65, Try.f65, Try.func65, [], [], [2], 0, by kernel_rfl⟩
def idxCut (p q : Vec) (n : Nat) (F : Nat → Body) : Cut := ⟨Nat, fun k => k ≤ n ∧ badN F 0 n = badN F k (n - k),
  fun k => ⟨[sl 0 (.rs 9 n fun i => (F i).cells), sl 1 (.v (.func (.func 53) #[] #[])), sl 6 (.rs 9 n fun i => (F i).cells), sl 7 (.v (.int .i64 n)), sl 8 (.v (.int .i64 k))], [(0, .lay p.cells 28), (1, .lay q.cells 28)], 2, 0, [], []⟩, fun k => n - k⟩
set_option maxHeartbeats 2000000 in
set_option maxRecDepth 8000 in
theorem Wrong1_walk : ∀ a, conj ((fun _ => []) a) → evFn (C := cx) [conValid] [] 0 noHow Try.f53 (((rds1 rdBody)).enc a) fun v H _ => resOut ((fun b => .v (.bool (!b.ok))) a) H v := by
  intro b _
  exact rfl
noncomputable def conWrong1 : Con cx := walkCon 53 Try.call53 (rds1 rdBody) (fun _ => []) (fun b => .v (.bool (!b.ok))) (fun _ => noHow) [] (fun _ => rfl) follows Try.func53 (by kernel_rfl) Wrong1_walk
set_option maxHeartbeats 2000000 in
set_option maxRecDepth 8000 in
theorem Wrong_walk : ∀ a, conj ((fun a => [(a.2.2.1 : Int) ≤ 1000000]) a) → evFn (C := cx) [conInside, conWrong1, conShort] [inContains, inIndex] 2 ⟨[1001], [], [], 0⟩ Try.f32 (((rds3 rdVec rdVec rdBodies)).enc a) fun v H _ => resOut ((fun a => .v (.int .i64 (wrongE a.1 a.2.1 a.2.2.1 a.2.2.2))) a) H v := by
  intro ⟨p, q, n, F⟩ hn
  replace hn : (n : Int) ≤ 1000000 := hn
  refine And.intro (fun h1 => ?_) (fun h1 => ?_)
  rotate_left
  · have h1 : (!p.inB) = true := h1
    refine Eq.trans (a := wrongE p q n F) (b := 2) ?_ rfl
    unfold wrongE; rw [h1]
  have h1 : (!p.inB) = false := h1
  refine And.intro (fun h2 => ?_) (fun h2 => ?_)
  rotate_left
  · have h2 : (!q.inB) = true := h2
    refine Eq.trans (a := wrongE p q n F) (b := 2) ?_ rfl
    unfold wrongE; rw [h1, h2]
  have h2 : (!q.inB) = false := h2
  have ip : p.In := Vec.In.of (by simpa using h1)
  have iq : q.In := Vec.In.of (by simpa using h2)
  refine Exists.intro (idxCut p q n F) ?_
  refine And.intro ?_ ?_
  · refine ⟨(0 : Nat), [], [], trivial, ⟨Nat.zero_le _, rfl⟩, ?_⟩
    repeat' (first | (refine And.intro ?_ ?_) | (intro _) | exact rfl)
  refine fun (k : Nat) (hk : k ≤ n ∧ badN F 0 n = badN F k (n - k)) => ?_
  obtain ⟨k1, k2⟩ := hk
  refine And.intro (fun hb => ?_) (fun hb => ?_)
  · have hb : (k : Int) < n := of_decide_eq_true hb
    have e := badN_step (F := F) (k := k) (n := n) (by omega)
    refine And.intro ⟨by omega, by omega⟩ ?_
    refine And.intro (fun hc => ?_) (fun hc => ?_)
    · have hc : (!(F k).ok) = true := hc
      rw [hc] at e
      refine And.intro (fun hd => ?_) (fun hd => ?_)
      · refine Eq.trans (a := wrongE p q n F) (b := 2) ?_ rfl
        unfold wrongE; rw [h1, h2, k2, e]
      · have hd := of_decide_eq_false hd
        exact absurd (by omega) hd
    · have hc : (!(F k).ok) = false := hc
      rw [hc] at e
      refine And.intro (by unfold I64; omega : I64 ((k : Int) + 1)) ?_
      refine ⟨k + 1, [], [], (by show n - (k + 1) < n - k; omega), ⟨by omega, by rw [k2, e]⟩, ?_⟩
      repeat' (first | (refine And.intro ?_ ?_) | (intro _) | exact rfl)
  · have hb : ¬ (k : Int) < n := of_decide_eq_false hb
    have e : badN F 0 n = false := by rw [k2, show n - k = 0 by omega]; rfl
    refine And.intro ⟨ip, iq⟩ ?_
    refine And.intro (fun h4 => ?_) (fun h4 => ?_)
    · have h4 : (!shortB p q) = true := h4
      refine Eq.trans (a := wrongE p q n F) (b := 3) ?_ rfl
      unfold wrongE; rw [h1, h2, e, h4]
    · have h4 : (!shortB p q) = false := h4
      refine Eq.trans (a := wrongE p q n F) (b := 0) ?_ rfl
      unfold wrongE; rw [h1, h2, e, h4]
noncomputable def conWrong : Con cx := walkCon 32 Try.call32 (rds3 rdVec rdVec rdBodies) (fun a => [(a.2.2.1 : Int) ≤ 1000000]) (fun a => .v (.int .i64 (wrongE a.1 a.2.1 a.2.2.1 a.2.2.2))) (fun _ => ⟨[1001], [], [], 0⟩) [1001] (fun _ => rfl) follows Try.func32 (by kernel_rfl) Wrong_walk
end Go.Proofs.Ytcbpajkgmpibgaa
