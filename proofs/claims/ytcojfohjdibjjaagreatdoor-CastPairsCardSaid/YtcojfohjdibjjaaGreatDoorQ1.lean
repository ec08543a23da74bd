/- Small functions: between, Valid, Bounds, Has, inside, short. Bounds, Has, inside, short, enter. -/
import Derived.Test.YtcojfohjdibjjaaGreatDoorQ0
namespace Go.Proofs.YtcojfohjdibjjaaGreatDoor
open Go.RowKit

/-- Do all of r numbers from the k-th on lie between? -/
def betN (lo hi : Int) (g : Nat → Int) : Nat → Nat → Bool
  | _, 0 => true
  | k, r + 1 => !(decide (g k < lo) || decide (hi < g k)) && betN lo hi g (k + 1) r
def betCut (lo hi : Int) (f : Fam) : Cut := ⟨Nat, fun k => k ≤ f.n ∧ betN lo hi f.g 0 f.n = betN lo hi f.g k (f.n - k),
  fun k => ⟨[sl 0 (.v (.int .i64 lo)), sl 1 (.v (.int .i64 hi)), sl 9 (.rs 1 f.n fun i => [.v (.int .i64 (f.g i))]), sl 10 (.v (.int .i64 f.n)), sl 11 (.v (.int .i64 k))], [], 0, 0, [], []⟩, fun k => f.n - k⟩
set_option maxHeartbeats 2000000 in
set_option maxRecDepth 8000 in
theorem Bet_walk : ∀ a, conj ((fun a => [(a.2.2.n : Int) ≤ 1000000]) a) → evFn (C := cx) [] [] 0 ⟨[], [], [2], 0⟩ Tryz.f67 (((rds3 (rdI .i64) (rdI .i64) (rdF .i64))).enc a) fun v H _ => resOut ((fun a => .v (.bool (betN a.1 a.2.1 a.2.2.g 0 a.2.2.n))) a) H v := by
  intro ⟨lo, hi, f⟩ hn
  replace hn : (f.n : Int) ≤ 1000000 := hn
  refine Exists.intro (betCut lo hi f) ?_
  refine And.intro ?_ ?_
  · refine ⟨(0 : Nat), [], [], trivial, ⟨Nat.zero_le _, rfl⟩, ?_⟩
    repeat' (first | (refine And.intro ?_ ?_) | (intro _) | exact rfl)
  refine fun (k : Nat) (hk : k ≤ f.n ∧ betN lo hi f.g 0 f.n = betN lo hi f.g k (f.n - k)) => ?_
  obtain ⟨h1, h2⟩ := hk
  refine And.intro (fun hb => ?_) (fun hb => ?_)
  · have hb : (k : Int) < f.n := of_decide_eq_true hb
    refine And.intro ⟨by omega, by omega⟩ ?_
    have e : betN lo hi f.g k (f.n - k) = (!(decide (f.g k < lo) || decide (hi < f.g k)) && betN lo hi f.g (k + 1) (f.n - (k + 1))) := by
      rw [show f.n - k = (f.n - (k + 1)) + 1 by omega]; rfl
    refine And.intro (fun hc => ?_) (fun hc => ?_)
    · have hc : (decide (f.g k < lo) || decide (hi < f.g k)) = true := hc
      refine Eq.trans (a := betN lo hi f.g 0 f.n) ?_ rfl
      rw [h2, e, hc]
      rfl
    · have hc : (decide (f.g k < lo) || decide (hi < f.g k)) = false := hc
      refine And.intro (by constructor <;> omega) ?_
      refine ⟨k + 1, [], [], (by show f.n - (k + 1) < f.n - k; omega), ⟨by omega, by rw [h2, e, hc]; rfl⟩, ?_⟩
      repeat' (first | (refine And.intro ?_ ?_) | (intro _) | exact rfl)
  · have hb : ¬ (k : Int) < f.n := of_decide_eq_false hb
    refine Eq.trans (a := betN lo hi f.g 0 f.n) ?_ rfl
    rw [h2, show f.n - k = 0 by omega]
    rfl
noncomputable def conBet : Con cx := walkCon 67 Tryz.call67 (rds3 (rdI .i64) (rdI .i64) (rdF .i64)) (fun a => [(a.2.2.n : Int) ≤ 1000000]) (fun a => .v (.bool (betN a.1 a.2.1 a.2.2.g 0 a.2.2.n))) (fun _ => ⟨[], [], [2], 0⟩) [] (fun _ => rfl) follows Tryz.func67 (by kernel_rfl) Bet_walk

def okI (lo hi x : Int) : Bool := !(decide (x < lo) || decide (hi < x)) && true
def okI2 (lo hi x y : Int) : Bool := !(decide (x < lo) || decide (hi < x)) && okI lo hi y
def Body.bad1 (b : Body) : Bool := !okI 0 65536 b.iD || !okI2 (-1048576) 1048576 b.posX b.posY || !okI2 (-4096) 4096 b.velX b.velY || !okI2 1 16384 b.w b.h
def Body.ok (b : Body) : Bool := match b.bad1 with
  | true => false
  | false => (!b.round || decide (b.w = b.h)) && (!b.fixed || (decide (b.velX = 0) && decide (b.velY = 0)))
theorem one_al {p : Nat → Prop} (h : p 0) : ∀ i, i < 1 → p i := fun i hi => by
  obtain rfl : i = 0 := Nat.lt_one_iff.1 hi
  exact h
theorem two_al {p : Nat → Prop} (h : p 0) (k : p 1) : ∀ i, i < 2 → p i := fun i hi => by
  match i, hi with
  | 0, _ => exact h
  | 1, _ => exact k
set_option maxHeartbeats 2000000 in
set_option maxRecDepth 8000 in
theorem Valid_walk : ∀ a, conj ((fun _ => []) a) → evFn (C := cx) [conBet] [] 0 ⟨[1001], [], [], 0⟩ Tryz.f44 (((rds1 rdBody)).enc a) fun v H _ => resOut ((fun b => .v (.bool b.ok)) a) H v := by
  intro b _
  have one : ((1 : Nat) : Int) ≤ 1000000 := by decide
  have two : ((2 : Nat) : Int) ≤ 1000000 := by decide
  refine And.intro ⟨one_al trivial, one⟩ ?_
  refine And.intro (fun h1 => ?_) (fun h1 => ?_)
  rotate_left
  · have h1 : (!okI 0 65536 b.iD) = true := h1
    refine Eq.trans (a := b.ok) ?_ rfl
    unfold Body.ok Body.bad1; rw [h1]; rfl
  have h1 : (!okI 0 65536 b.iD) = false := h1
  refine And.intro ⟨two_al trivial trivial, two⟩ ?_
  refine And.intro (fun h2 => ?_) (fun h2 => ?_)
  rotate_left
  · have h2 : (!okI2 (-1048576) 1048576 b.posX b.posY) = true := h2
    refine Eq.trans (a := b.ok) ?_ rfl
    unfold Body.ok Body.bad1; rw [h1, h2]; rfl
  have h2 : (!okI2 (-1048576) 1048576 b.posX b.posY) = false := h2
  refine And.intro ⟨two_al trivial trivial, two⟩ ?_
  refine And.intro (fun h3 => ?_) (fun h3 => ?_)
  rotate_left
  · have h3 : (!okI2 (-4096) 4096 b.velX b.velY) = true := h3
    refine Eq.trans (a := b.ok) ?_ rfl
    unfold Body.ok Body.bad1; rw [h1, h2, h3]; rfl
  have h3 : (!okI2 (-4096) 4096 b.velX b.velY) = false := h3
  refine And.intro ⟨two_al trivial trivial, two⟩ ?_
  refine And.intro (fun h4 => ?_) (fun h4 => ?_)
  · have h4 : (!okI2 1 16384 b.w b.h) = true := h4
    refine Eq.trans (a := b.ok) ?_ rfl
    unfold Body.ok Body.bad1; rw [h1, h2, h3, h4]; rfl
  have h4 : (!okI2 1 16384 b.w b.h) = false := h4
  refine Eq.trans (a := b.ok) (b := (!b.round || decide (b.w = b.h)) && (!b.fixed || (decide (b.velX = 0) && decide (b.velY = 0)))) ?_ rfl
  unfold Body.ok Body.bad1; rw [h1, h2, h3, h4]; rfl
noncomputable def conValid : Con cx := walkCon 44 Tryz.call44 (rds1 rdBody) (fun _ => []) (fun b => .v (.bool b.ok)) (fun _ => ⟨[1001], [], [], 0⟩) [1001] (fun _ => rfl) follows Tryz.func44 (by kernel_rfl) Valid_walk
end Go.Proofs.YtcojfohjdibjjaaGreatDoor
namespace Go.Proofs.YtcojfohjdibjjaaGreatDoor
open Go.RowKit

theorem sq_bd {x a : Int} (h : -a ≤ x ∧ x ≤ a) : 0 ≤ x * x ∧ x * x ≤ a * a := by
  refine ⟨sq_nn x, ?_⟩
  rcases Int.le_total 0 x with k | k
  · exact sq_le k h.2
  · have := sq_le (x := -x) (by omega) (by omega : -x ≤ a)
    rw [Int.neg_mul_neg] at this
    exact this
def I64 (x : Int) : Prop := -9223372036854775808 ≤ x ∧ x ≤ 9223372036854775807
structure Body.Ok (b : Body) : Prop where
  id : 0 ≤ b.iD ∧ b.iD ≤ 65536
  x : -1048576 ≤ b.posX ∧ b.posX ≤ 1048576
  y : -1048576 ≤ b.posY ∧ b.posY ≤ 1048576
  w : 1 ≤ b.w ∧ b.w ≤ 16384
  h : 1 ≤ b.h ∧ b.h ≤ 16384
  r : b.round = true → b.w = b.h
theorem Body.Ok.of {b : Body} (h : b.ok = true) : b.Ok := by
  unfold Body.ok at h
  split at h
  · cases h
  · rename_i hb
    unfold Body.bad1 at hb
    simp only [Bool.or_eq_false_iff, Bool.not_eq_false', okI, okI2, Bool.and_eq_true, Bool.not_eq_true', decide_eq_false_iff_not, and_true] at hb
    obtain ⟨⟨⟨h1, h2⟩, h3⟩, h4⟩ := hb
    simp only [Bool.and_eq_true, Bool.or_eq_true, Bool.not_eq_true', decide_eq_true_eq] at h
    refine ⟨by omega, by omega, by omega, by omega, by omega, fun hr => ?_⟩
    rcases h.1 with h | h
    · rw [hr] at h; cases h
    · exact h
theorem Body.ok_of {b : Body} (h : b.Ok) (hv : b.velX = 0 ∧ b.velY = 0) : b.ok = true := by
  have h1 := h.id
  have h2 := h.x
  have h3 := h.y
  have h4 := h.w
  have h5 := h.h
  unfold Body.ok
  have hb : b.bad1 = false := by
    unfold Body.bad1
    simp only [Bool.or_eq_false_iff, Bool.not_eq_false', okI, okI2, Bool.and_eq_true, Bool.not_eq_true', decide_eq_false_iff_not, and_true]
    omega
  rw [hb]
  simp only [hv.1, hv.2, decide_true, Bool.and_self, Bool.or_true, Bool.and_true]
  cases hr : b.round with
  | false => rfl
  | true => simp [h.r hr]
def Body.low (b : Body) : Vec := match b.ok with | true => ⟨b.posX - b.w, b.posY - b.h⟩ | false => ⟨0, 0⟩
def Body.high (b : Body) : Vec := match b.ok with | true => ⟨b.posX + b.w, b.posY + b.h⟩ | false => ⟨0, 0⟩
set_option maxHeartbeats 2000000 in
set_option maxRecDepth 8000 in
theorem Bounds_walk : ∀ a, conj ((fun _ => []) a) → evFn (C := cx) [conValid] [] 0 ⟨[3], [], [], 0⟩ Tryz.f45 (((rds1 rdBody)).enc a) fun v H _ => resOut ((fun b => .tup [b.low.sv, b.high.sv]) a) H v := by
  intro b _
  refine And.intro (fun hb => ?_) (fun hb => ?_)
  · have hb : b.ok = false := by
      have hb : (!b.ok) = true := hb
      simpa using hb
    have e1 : b.low = ⟨0, 0⟩ := by unfold Body.low; rw [hb]
    have e2 : b.high = ⟨0, 0⟩ := by unfold Body.high; rw [hb]
    simp only [e1, e2]
    repeat' (first | (refine And.intro ?_ ?_) | (intro _) | exact rfl)
  · have hb : b.ok = true := by
      have hb : (!b.ok) = false := hb
      simpa using hb
    have e1 : b.low = ⟨b.posX - b.w, b.posY - b.h⟩ := by unfold Body.low; rw [hb]
    have e2 : b.high = ⟨b.posX + b.w, b.posY + b.h⟩ := by unfold Body.high; rw [hb]
    simp only [e1, e2]
    obtain ⟨-, h1, h2, h3, h4, -⟩ := Body.Ok.of hb
    refine And.intro (by unfold I64; omega : I64 (b.posX - b.w)) ?_
    refine And.intro (by unfold I64; omega : I64 (b.posY - b.h)) ?_
    refine And.intro (by unfold I64; omega : I64 (b.posX + b.w)) ?_
    refine And.intro (by unfold I64; omega : I64 (b.posY + b.h)) ?_
    repeat' (first | (refine And.intro ?_ ?_) | (intro _) | exact rfl)
noncomputable def conBounds : Con cx := walkCon 45 Tryz.call45 (rds1 rdBody) (fun _ => []) (fun b => .tup [b.low.sv, b.high.sv]) (fun _ => ⟨[3], [], [], 0⟩) [3] (fun _ => rfl) follows Tryz.func45 (by kernel_rfl) Bounds_walk

def Vec.inB (p : Vec) : Bool := decide (max p.x p.y ≤ 2097152) && decide (-2097152 ≤ min p.x p.y)
structure Vec.In (p : Vec) : Prop where
  x : -2097152 ≤ p.x ∧ p.x ≤ 2097152
  y : -2097152 ≤ p.y ∧ p.y ≤ 2097152
theorem Vec.In.of {p : Vec} (h : p.inB = true) : p.In := by
  unfold Vec.inB at h
  simp only [Bool.and_eq_true, decide_eq_true_eq] at h
  constructor <;> omega
theorem Vec.inB_of {p : Vec} (h : p.In) : p.inB = true := by
  have h1 := h.x
  have h2 := h.y
  unfold Vec.inB
  simp only [Bool.and_eq_true, decide_eq_true_eq]
  omega
set_option maxHeartbeats 2000000 in
set_option maxRecDepth 8000 in
theorem Inside_walk : ∀ a, conj ((fun _ => []) a) → evFn (C := cx) [] [] 0 noHow Tryz.f41 (((rds1 rdVec)).enc a) fun v H _ => resOut ((fun p => .v (.bool p.inB)) a) H v := by
  intro p _
  exact rfl
noncomputable def conInside : Con cx := walkCon 41 Tryz.call41 (rds1 rdVec) (fun _ => []) (fun p => .v (.bool p.inB)) (fun _ => noHow) [] (fun _ => rfl) follows Tryz.func41 (by kernel_rfl) Inside_walk
set_option maxHeartbeats 2000000 in
set_option maxRecDepth 8000 in
theorem Abs_walk : ∀ a, conj ((fun n => [-9223372036854775807 ≤ n ∧ n ≤ 9223372036854775807]) a) → evFn (C := cx) [] [] 0 noHow Tryz.f65 (((rds1 (rdI .i64))).enc a) fun v H _ => resOut ((fun n => .v (.int .i64 (max n (-n)))) a) H v := by
  intro n hn
  replace hn : -9223372036854775807 ≤ n ∧ n ≤ 9223372036854775807 := hn
  refine And.intro (by unfold I64; omega : I64 (-n)) ?_
  exact rfl
noncomputable def conAbs : Con cx := walkCon 65 Tryz.call65 (rds1 (rdI .i64)) (fun n => [-9223372036854775807 ≤ n ∧ n ≤ 9223372036854775807]) (fun n => .v (.int .i64 (max n (-n)))) (fun _ => noHow) [] (fun _ => rfl) follows Tryz.func65 (by kernel_rfl) Abs_walk

def shortB (p q : Vec) : Bool := decide (max (max (q.x - p.x) (-(q.x - p.x))) (max (q.y - p.y) (-(q.y - p.y))) ≤ 8192)
set_option maxHeartbeats 2000000 in
set_option maxRecDepth 8000 in
theorem Short_walk : ∀ a, conj ((fun a => [a.1.In, a.2.In]) a) → evFn (C := cx) [conAbs] [] 0 noHow Tryz.f34 (((rds2 rdVec rdVec)).enc a) fun v H _ => resOut ((fun a => .v (.bool (shortB a.1 a.2))) a) H v := by
  intro ⟨p, q⟩ ⟨hp, hq⟩
  obtain ⟨p1, p2⟩ : p.In := hp
  obtain ⟨q1, q2⟩ : q.In := hq
  refine And.intro (by unfold I64; omega : I64 (q.x - p.x)) ?_
  refine And.intro (by omega : -9223372036854775807 ≤ q.x - p.x ∧ q.x - p.x ≤ 9223372036854775807) ?_
  refine And.intro (by unfold I64; omega : I64 (q.y - p.y)) ?_
  refine And.intro (by omega : -9223372036854775807 ≤ q.y - p.y ∧ q.y - p.y ≤ 9223372036854775807) ?_
  exact rfl
noncomputable def conShort : Con cx := walkCon 34 Tryz.call34 (rds2 rdVec rdVec) (fun a => [a.1.In, a.2.In]) (fun a => .v (.bool (shortB a.1 a.2))) (fun _ => noHow) [] (fun _ => rfl) follows Tryz.func34 (by kernel_rfl) Short_walk
/-- Has a body a point? -/
def Body.hasB (b : Body) (p : Vec) : Bool := match !b.ok with
  | true => false
  | false => match !okI b.low.x b.high.x p.x with
    | true => false
    | false => match !okI b.low.y b.high.y p.y with
      | true => false
      | false => !b.round || decide ((p.x - b.posX) * (p.x - b.posX) + (p.y - b.posY) * (p.y - b.posY) ≤ b.w * b.w)
theorem okI_rng {lo hi x : Int} (h : (!okI lo hi x) = false) : lo ≤ x ∧ x ≤ hi := by
  simp only [okI, Bool.not_eq_false', Bool.and_true, Bool.not_eq_true', Bool.or_eq_false_iff, decide_eq_false_iff_not] at h
  omega
end Go.Proofs.YtcojfohjdibjjaaGreatDoor
