/- Bounds, Has, inside, short, enter. -/
import Derived.Test.YtcbpajkgmpibgaaC4
namespace Go.Proofs.Ytcbpajkgmpibgaa
open Go.RowKit

theorem sq_bd {x a : Int} (h : -a ≤ x ∧ x ≤ a) : 0 ≤ x * x ∧ x * x ≤ a * a := by
  refine ⟨sq_nn x, ?_⟩
  rcases Int.le_total 0 x with k | k
  · exact sq_le k h.2
  · have := sq_le (x := -x) (by omega) (by omega : -x ≤ a)
    rw [Int.neg_mul_neg] at this
    exact this
def I64 (x : Int) : Prop := -9223372036854775808 ≤ x ∧ x ≤ 9223372036854775807
structure Body.Ok (b : Body) : Prop where
  id : 0 ≤ b.iD ∧ b.iD ≤ 65536
  x : -1048576 ≤ b.posX ∧ b.posX ≤ 1048576
  y : -1048576 ≤ b.posY ∧ b.posY ≤ 1048576
  w : 1 ≤ b.w ∧ b.w ≤ 16384
  h : 1 ≤ b.h ∧ b.h ≤ 16384
  r : b.round = true → b.w = b.h
theorem Body.Ok.of {b : Body} (h : b.ok = true) : b.Ok := by
  unfold Body.ok at h
  split at h
  · cases h
  · rename_i hb
    unfold Body.bad1 at hb
    simp only [Bool.or_eq_false_iff, Bool.not_eq_false', okI, okI2, Bool.and_eq_true, Bool.not_eq_true', decide_eq_false_iff_not, and_true] at hb
    obtain ⟨⟨⟨h1, h2⟩, h3⟩, h4⟩ := hb
    simp only [Bool.and_eq_true, Bool.or_eq_true, Bool.not_eq_true', decide_eq_true_eq] at h
    refine ⟨by omega, by omega, by omega, by omega, by omega, fun hr => ?_⟩
    rcases h.1 with h | h
    · rw [hr] at h; cases h
    · exact h
theorem Body.ok_of {b : Body} (h : b.Ok) (hv : b.velX = 0 ∧ b.velY = 0) : b.ok = true := by
  have h1 := h.id
  have h2 := h.x
  have h3 := h.y
  have h4 := h.w
  have h5 := h.h
  unfold Body.ok
  have hb : b.bad1 = false := by
    unfold Body.bad1
    simp only [Bool.or_eq_false_iff, Bool.not_eq_false', okI, okI2, Bool.and_eq_true, Bool.not_eq_true', decide_eq_false_iff_not, and_true]
    omega
  rw [hb]
  simp only [hv.1, hv.2, decide_true, Bool.and_self, Bool.or_true, Bool.and_true]
  cases hr : b.round with
  | false => rfl
  | true => simp [h.r hr]
def Body.low (b : Body) : Vec := match b.ok with | true => ⟨b.posX - b.w, b.posY - b.h⟩ | false => ⟨0, 0⟩
def Body.high (b : Body) : Vec := match b.ok with | true => ⟨b.posX + b.w, b.posY + b.h⟩ | false => ⟨0, 0⟩
set_option maxHeartbeats 2000000 in
set_option maxRecDepth 8000 in
theorem Bounds_walk : ∀ a, conj ((fun _ => []) a) → evFn (C := cx) [conValid] [] 0 ⟨[3], [], [], 0⟩ Try.f23 (((rds1 rdBody)).enc a) fun v H _ => resOut ((fun b => .tup [b.low.sv, b.high.sv]) a) H v := by
  intro b _
  refine And.intro (fun hb => ?_) (fun hb => ?_)
  · have hb : b.ok = false := by
      have hb : (!b.ok) = true := hb
      simpa using hb
    have e1 : b.low = ⟨0, 0⟩ := by unfold Body.low; rw [hb]
    have e2 : b.high = ⟨0, 0⟩ := by unfold Body.high; rw [hb]
    simp only [e1, e2]
    repeat' (first | (refine And.intro ?_ ?_) | (intro _) | exact rfl)
  · have hb : b.ok = true := by
      have hb : (!b.ok) = false := hb
      simpa using hb
    have e1 : b.low = ⟨b.posX - b.w, b.posY - b.h⟩ := by unfold Body.low; rw [hb]
    have e2 : b.high = ⟨b.posX + b.w, b.posY + b.h⟩ := by unfold Body.high; rw [hb]
    simp only [e1, e2]
    obtain ⟨-, h1, h2, h3, h4, -⟩ := Body.Ok.of hb
    refine And.intro (by unfold I64; omega : I64 (b.posX - b.w)) ?_
    refine And.intro (by unfold I64; omega : I64 (b.posY - b.h)) ?_
    refine And.intro (by unfold I64; omega : I64 (b.posX + b.w)) ?_
    refine And.intro (by unfold I64; omega : I64 (b.posY + b.h)) ?_
    repeat' (first | (refine And.intro ?_ ?_) | (intro _) | exact rfl)
noncomputable def conBounds : Con cx := walkCon 23 Try.call23 (rds1 rdBody) (fun _ => []) (fun b => .tup [b.low.sv, b.high.sv]) (fun _ => ⟨[3], [], [], 0⟩) [3] (fun _ => rfl) follows Try.func23 (by kernel_rfl) Bounds_walk

def Vec.inB (p : Vec) : Bool := decide (max p.x p.y ≤ 2097152) && decide (-2097152 ≤ min p.x p.y)
structure Vec.In (p : Vec) : Prop where
  x : -2097152 ≤ p.x ∧ p.x ≤ 2097152
  y : -2097152 ≤ p.y ∧ p.y ≤ 2097152
theorem Vec.In.of {p : Vec} (h : p.inB = true) : p.In := by
  unfold Vec.inB at h
  simp only [Bool.and_eq_true, decide_eq_true_eq] at h
  constructor <;> omega
theorem Vec.inB_of {p : Vec} (h : p.In) : p.inB = true := by
  have h1 := h.x
  have h2 := h.y
  unfold Vec.inB
  simp only [Bool.and_eq_true, decide_eq_true_eq]
  omega
set_option maxHeartbeats 2000000 in
set_option maxRecDepth 8000 in
theorem Inside_walk : ∀ a, conj ((fun _ => []) a) → evFn (C := cx) [] [] 0 noHow Try.f51 (((rds1 rdVec)).enc a) fun v H _ => resOut ((fun p => .v (.bool p.inB)) a) H v := by
  intro p _
  exact rfl
noncomputable def conInside : Con cx := walkCon 51 Try.call51 (rds1 rdVec) (fun _ => []) (fun p => .v (.bool p.inB)) (fun _ => noHow) [] (fun _ => rfl) follows Try.func51 (by kernel_rfl) Inside_walk
set_option maxHeartbeats 2000000 in
set_option maxRecDepth 8000 in
theorem Abs_walk : ∀ a, conj ((fun n => [-9223372036854775807 ≤ n ∧ n ≤ 9223372036854775807]) a) → evFn (C := cx) [] [] 0 noHow Try.f64 (((rds1 (rdI .i64))).enc a) fun v H _ => resOut ((fun n => .v (.int .i64 (max n (-n)))) a) H v := by
  intro n hn
  replace hn : -9223372036854775807 ≤ n ∧ n ≤ 9223372036854775807 := hn
  refine And.intro (by unfold I64; omega : I64 (-n)) ?_
  exact rfl
noncomputable def conAbs : Con cx := walkCon 64 Try.call64 (rds1 (rdI .i64)) (fun n => [-9223372036854775807 ≤ n ∧ n ≤ 9223372036854775807]) (fun n => .v (.int .i64 (max n (-n)))) (fun _ => noHow) [] (fun _ => rfl) follows Try.func64 (by kernel_rfl) Abs_walk

def shortB (p q : Vec) : Bool := decide (max (max (q.x - p.x) (-(q.x - p.x))) (max (q.y - p.y) (-(q.y - p.y))) ≤ 8192)
set_option maxHeartbeats 2000000 in
set_option maxRecDepth 8000 in
theorem Short_walk : ∀ a, conj ((fun a => [a.1.In, a.2.In]) a) → evFn (C := cx) [conAbs] [] 0 noHow Try.f44 (((rds2 rdVec rdVec)).enc a) fun v H _ => resOut ((fun a => .v (.bool (shortB a.1 a.2))) a) H v := by
  intro ⟨p, q⟩ ⟨hp, hq⟩
  obtain ⟨p1, p2⟩ : p.In := hp
  obtain ⟨q1, q2⟩ : q.In := hq
  refine And.intro (by unfold I64; omega : I64 (q.x - p.x)) ?_
  refine And.intro (by omega : -9223372036854775807 ≤ q.x - p.x ∧ q.x - p.x ≤ 9223372036854775807) ?_
  refine And.intro (by unfold I64; omega : I64 (q.y - p.y)) ?_
  refine And.intro (by omega : -9223372036854775807 ≤ q.y - p.y ∧ q.y - p.y ≤ 9223372036854775807) ?_
  exact rfl
noncomputable def conShort : Con cx := walkCon 44 Try.call44 (rds2 rdVec rdVec) (fun a => [a.1.In, a.2.In]) (fun a => .v (.bool (shortB a.1 a.2))) (fun _ => noHow) [] (fun _ => rfl) follows Try.func44 (by kernel_rfl) Short_walk
set_option maxHeartbeats 2000000 in
set_option maxRecDepth 8000 in
theorem Square_walk : ∀ a, conj ((fun a => [-1073741824 ≤ a.1 ∧ a.1 ≤ 1073741824, -1073741824 ≤ a.2 ∧ a.2 ≤ 1073741824]) a) → evFn (C := cx) [] [] 0 noHow Try.f50 (((rds2 (rdI .i64) (rdI .i64))).enc a) fun v H _ => resOut ((fun a => .v (.int .i64 (a.1 * a.1 + a.2 * a.2))) a) H v := by
  intro ⟨x, y⟩ ⟨hx, hy⟩
  replace hx : -1073741824 ≤ x ∧ x ≤ 1073741824 := hx
  replace hy : -1073741824 ≤ y ∧ y ≤ 1073741824 := hy
  have h1 := sq_bd hx
  have h2 := sq_bd hy
  refine And.intro (by unfold I64; omega : I64 (x * x)) ?_
  refine And.intro (by unfold I64; omega : I64 (y * y)) ?_
  refine And.intro (by unfold I64; omega : I64 (x * x + y * y)) ?_
  exact rfl
noncomputable def conSquare : Con cx := walkCon 50 Try.call50 (rds2 (rdI .i64) (rdI .i64)) (fun a => [-1073741824 ≤ a.1 ∧ a.1 ≤ 1073741824, -1073741824 ≤ a.2 ∧ a.2 ≤ 1073741824]) (fun a => .v (.int .i64 (a.1 * a.1 + a.2 * a.2))) (fun _ => noHow) [] (fun _ => rfl) follows Try.func50 (by kernel_rfl) Square_walk

/-- Has a body a point? -/
def Body.hasB (b : Body) (p : Vec) : Bool := match !b.ok with
  | true => false
  | false => match !okI b.low.x b.high.x p.x with
    | true => false
    | false => match !okI b.low.y b.high.y p.y with
      | true => false
      | false => !b.round || decide ((p.x - b.posX) * (p.x - b.posX) + (p.y - b.posY) * (p.y - b.posY) ≤ b.w * b.w)
theorem okI_rng {lo hi x : Int} (h : (!okI lo hi x) = false) : lo ≤ x ∧ x ≤ hi := by
  simp only [okI, Bool.not_eq_false', Bool.and_true, Bool.not_eq_true', Bool.or_eq_false_iff, decide_eq_false_iff_not] at h
  omega
set_option maxHeartbeats 2000000 in
set_option maxRecDepth 8000 in
theorem Has_walk : ∀ a, conj ((fun _ => []) a) → evFn (C := cx) [conBounds, conValid, conBet, conSquare] [] 0 ⟨[1002], [], [], 0⟩ Try.f28 (((rds2 rdBody rdVec)).enc a) fun v H _ => resOut ((fun a => .v (.bool (a.1.hasB a.2))) a) H v := by
  intro ⟨b, p⟩ _
  have one : ((1 : Nat) : Int) ≤ 1000000 := by decide
  refine And.intro (fun h1 => ?_) (fun h1 => ?_)
  rotate_left
  · have h1 : (!b.ok) = true := h1
    refine Eq.trans (a := b.hasB p) ?_ rfl
    unfold Body.hasB; rw [h1]
  have h1 : (!b.ok) = false := h1
  refine And.intro ⟨one_al trivial, one⟩ ?_
  refine And.intro (fun h2 => ?_) (fun h2 => ?_)
  rotate_left
  · have h2 : (!okI b.low.x b.high.x p.x) = true := h2
    refine Eq.trans (a := b.hasB p) ?_ rfl
    unfold Body.hasB; rw [h1, h2]
  have h2 : (!okI b.low.x b.high.x p.x) = false := h2
  refine And.intro ⟨one_al trivial, one⟩ ?_
  refine And.intro (fun h3 => ?_) (fun h3 => ?_)
  · have h3 : (!okI b.low.y b.high.y p.y) = true := h3
    refine Eq.trans (a := b.hasB p) ?_ rfl
    unfold Body.hasB; rw [h1, h2, h3]
  have h3 : (!okI b.low.y b.high.y p.y) = false := h3
  have hv : b.ok = true := by simpa using h1
  obtain ⟨-, o1, o2, o3, o4, -⟩ := Body.Ok.of hv
  have l1 := okI_rng h2
  have l2 := okI_rng h3
  simp only [Body.low, Body.high, hv] at l1 l2
  have r1 := sq_bd (x := p.x - b.posX) (a := 16384) (by omega)
  have r2 := sq_bd (x := p.y - b.posY) (a := 16384) (by omega)
  have r3 := sq_bd (x := b.w) (a := 16384) (by omega)
  refine And.intro (fun _ => (by unfold I64; omega : I64 (p.x - b.posX))) ?_
  refine And.intro (fun _ => (by unfold I64; omega : I64 (p.y - b.posY))) ?_
  refine And.intro (fun _ => ⟨(by omega : -1073741824 ≤ p.x - b.posX ∧ p.x - b.posX ≤ 1073741824), (by omega : -1073741824 ≤ p.y - b.posY ∧ p.y - b.posY ≤ 1073741824)⟩) ?_
  refine And.intro (fun _ => (by unfold I64; omega : I64 (b.w * b.w))) ?_
  refine Eq.trans (a := b.hasB p) (b := !b.round || decide ((p.x - b.posX) * (p.x - b.posX) + (p.y - b.posY) * (p.y - b.posY) ≤ b.w * b.w)) ?_ rfl
  unfold Body.hasB; rw [h1, h2, h3]
noncomputable def conHas : Con cx := walkCon 28 Try.call28 (rds2 rdBody rdVec) (fun _ => []) (fun a => .v (.bool (a.1.hasB a.2))) (fun _ => ⟨[1002], [], [], 0⟩) [1002] (fun _ => rfl) follows Try.func28 (by kernel_rfl) Has_walk
end Go.Proofs.Ytcbpajkgmpibgaa
