/- Small functions: between, Valid, Bounds, Has, inside, short. -/
import Derived.Test.YtcbpajkgmpibgaaC3
namespace Go.Proofs.Ytcbpajkgmpibgaa
open Go.RowKit

/-- Do all of r numbers from the k-th on lie between? -/
def betN (lo hi : Int) (g : Nat → Int) : Nat → Nat → Bool
  | _, 0 => true
  | k, r + 1 => !(decide (g k < lo) || decide (hi < g k)) && betN lo hi g (k + 1) r
def betCut (lo hi : Int) (f : Fam) : Cut := ⟨Nat, fun k => k ≤ f.n ∧ betN lo hi f.g 0 f.n = betN lo hi f.g k (f.n - k),
  fun k => ⟨[sl 0 (.v (.int .i64 lo)), sl 1 (.v (.int .i64 hi)), sl 9 (.rs 1 f.n fun i => [.v (.int .i64 (f.g i))]), sl 10 (.v (.int .i64 f.n)), sl 11 (.v (.int .i64 k))], [], 0, 0, [], []⟩, fun k => f.n - k⟩
set_option maxHeartbeats 2000000 in
set_option maxRecDepth 8000 in
theorem Bet_walk : ∀ a, conj ((fun a => [(a.2.2.n : Int) ≤ 1000000]) a) → evFn (C := cx) [] [] 0 ⟨[], [], [2], 0⟩ Try.f49 (((rds3 (rdI .i64) (rdI .i64) (rdF .i64))).enc a) fun v H _ => resOut ((fun a => .v (.bool (betN a.1 a.2.1 a.2.2.g 0 a.2.2.n))) a) H v := by
  intro ⟨lo, hi, f⟩ hn
  replace hn : (f.n : Int) ≤ 1000000 := hn
  refine Exists.intro (betCut lo hi f) ?_
  refine And.intro ?_ ?_
  · refine ⟨(0 : Nat), [], [], trivial, ⟨Nat.zero_le _, rfl⟩, ?_⟩
    repeat' (first | (refine And.intro ?_ ?_) | (intro _) | exact rfl)
  refine fun (k : Nat) (hk : k ≤ f.n ∧ betN lo hi f.g 0 f.n = betN lo hi f.g k (f.n - k)) => ?_
  obtain ⟨h1, h2⟩ := hk
  refine And.intro (fun hb => ?_) (fun hb => ?_)
  · have hb : (k : Int) < f.n := of_decide_eq_true hb
    refine And.intro ⟨by omega, by omega⟩ ?_
    have e : betN lo hi f.g k (f.n - k) = (!(decide (f.g k < lo) || decide (hi < f.g k)) && betN lo hi f.g (k + 1) (f.n - (k + 1))) := by
      rw [show f.n - k = (f.n - (k + 1)) + 1 by omega]; rfl
    refine And.intro (fun hc => ?_) (fun hc => ?_)
    · have hc : (decide (f.g k < lo) || decide (hi < f.g k)) = true := hc
      refine Eq.trans (a := betN lo hi f.g 0 f.n) ?_ rfl
      rw [h2, e, hc]
      rfl
    · have hc : (decide (f.g k < lo) || decide (hi < f.g k)) = false := hc
      refine And.intro (by constructor <;> omega) ?_
      refine ⟨k + 1, [], [], (by show f.n - (k + 1) < f.n - k; omega), ⟨by omega, by rw [h2, e, hc]; rfl⟩, ?_⟩
      repeat' (first | (refine And.intro ?_ ?_) | (intro _) | exact rfl)
  · have hb : ¬ (k : Int) < f.n := of_decide_eq_false hb
    refine Eq.trans (a := betN lo hi f.g 0 f.n) ?_ rfl
    rw [h2, show f.n - k = 0 by omega]
    rfl
noncomputable def conBet : Con cx := walkCon 49 Try.call49 (rds3 (rdI .i64) (rdI .i64) (rdF .i64)) (fun a => [(a.2.2.n : Int) ≤ 1000000]) (fun a => .v (.bool (betN a.1 a.2.1 a.2.2.g 0 a.2.2.n))) (fun _ => ⟨[], [], [2], 0⟩) [] (fun _ => rfl) follows Try.func49 (by kernel_rfl) Bet_walk

def okI (lo hi x : Int) : Bool := !(decide (x < lo) || decide (hi < x)) && true
def okI2 (lo hi x y : Int) : Bool := !(decide (x < lo) || decide (hi < x)) && okI lo hi y
def Body.bad1 (b : Body) : Bool := !okI 0 65536 b.iD || !okI2 (-1048576) 1048576 b.posX b.posY || !okI2 (-4096) 4096 b.velX b.velY || !okI2 1 16384 b.w b.h
def Body.ok (b : Body) : Bool := match b.bad1 with
  | true => false
  | false => (!b.round || decide (b.w = b.h)) && (!b.fixed || (decide (b.velX = 0) && decide (b.velY = 0)))
theorem one_al {p : Nat → Prop} (h : p 0) : ∀ i, i < 1 → p i := fun i hi => by
  obtain rfl : i = 0 := Nat.lt_one_iff.1 hi
  exact h
theorem two_al {p : Nat → Prop} (h : p 0) (k : p 1) : ∀ i, i < 2 → p i := fun i hi => by
  match i, hi with
  | 0, _ => exact h
  | 1, _ => exact k
set_option maxHeartbeats 2000000 in
set_option maxRecDepth 8000 in
theorem Valid_walk : ∀ a, conj ((fun _ => []) a) → evFn (C := cx) [conBet] [] 0 ⟨[1001], [], [], 0⟩ Try.f39 (((rds1 rdBody)).enc a) fun v H _ => resOut ((fun b => .v (.bool b.ok)) a) H v := by
  intro b _
  have one : ((1 : Nat) : Int) ≤ 1000000 := by decide
  have two : ((2 : Nat) : Int) ≤ 1000000 := by decide
  refine And.intro ⟨one_al trivial, one⟩ ?_
  refine And.intro (fun h1 => ?_) (fun h1 => ?_)
  rotate_left
  · have h1 : (!okI 0 65536 b.iD) = true := h1
    refine Eq.trans (a := b.ok) ?_ rfl
    unfold Body.ok Body.bad1; rw [h1]; rfl
  have h1 : (!okI 0 65536 b.iD) = false := h1
  refine And.intro ⟨two_al trivial trivial, two⟩ ?_
  refine And.intro (fun h2 => ?_) (fun h2 => ?_)
  rotate_left
  · have h2 : (!okI2 (-1048576) 1048576 b.posX b.posY) = true := h2
    refine Eq.trans (a := b.ok) ?_ rfl
    unfold Body.ok Body.bad1; rw [h1, h2]; rfl
  have h2 : (!okI2 (-1048576) 1048576 b.posX b.posY) = false := h2
  refine And.intro ⟨two_al trivial trivial, two⟩ ?_
  refine And.intro (fun h3 => ?_) (fun h3 => ?_)
  rotate_left
  · have h3 : (!okI2 (-4096) 4096 b.velX b.velY) = true := h3
    refine Eq.trans (a := b.ok) ?_ rfl
    unfold Body.ok Body.bad1; rw [h1, h2, h3]; rfl
  have h3 : (!okI2 (-4096) 4096 b.velX b.velY) = false := h3
  refine And.intro ⟨two_al trivial trivial, two⟩ ?_
  refine And.intro (fun h4 => ?_) (fun h4 => ?_)
  · have h4 : (!okI2 1 16384 b.w b.h) = true := h4
    refine Eq.trans (a := b.ok) ?_ rfl
    unfold Body.ok Body.bad1; rw [h1, h2, h3, h4]; rfl
  have h4 : (!okI2 1 16384 b.w b.h) = false := h4
  refine Eq.trans (a := b.ok) (b := (!b.round || decide (b.w = b.h)) && (!b.fixed || (decide (b.velX = 0) && decide (b.velY = 0)))) ?_ rfl
  unfold Body.ok Body.bad1; rw [h1, h2, h3, h4]; rfl
noncomputable def conValid : Con cx := walkCon 39 Try.call39 (rds1 rdBody) (fun _ => []) (fun b => .v (.bool b.ok)) (fun _ => ⟨[1001], [], [], 0⟩) [1001] (fun _ => rfl) follows Try.func39 (by kernel_rfl) Valid_walk
end Go.Proofs.Ytcbpajkgmpibgaa
