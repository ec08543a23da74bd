/- Plain laws: a greater body has all that the smaller one has. -/
import Derived.Test.YtggcfjeehpcclaaDoorY0
namespace Go.Proofs.YtggcfjeehpcclaaDoor
open Go.RowKit

theorem has_iff {b : Body} {p : Vec} : b.has p = true ↔ b.ok = true ∧ (b.posX - b.w ≤ p.x ∧ p.x ≤ b.posX + b.w) ∧ (b.posY - b.h ≤ p.y ∧ p.y ≤ b.posY + b.h) ∧ (b.round = true → (p.x - b.posX) * (p.x - b.posX) + (p.y - b.posY) * (p.y - b.posY) ≤ b.w * b.w) := by
  unfold Body.has hasB Body.ok
  simp only [Bool.and_eq_true, allIn1, Bool.or_eq_true, Bool.not_eq_true', decide_eq_true_eq, and_assoc]
  constructor
  · rintro ⟨h1, h2, h3, h4, h5, h6⟩
    exact ⟨h1, h2, h3, h4, h5, fun hr => h6.resolve_left (by rw [hr]; simp)⟩
  · rintro ⟨h1, h2, h3, h4, h5, h6⟩
    refine ⟨h1, h2, h3, h4, h5, ?_⟩
    cases hr : b.round with
    | false => exact .inl rfl
    | true => exact .inr (h6 hr)

theorem sq_add (a b : Int) : (a + b) * (a + b) = a * a + 2 * (a * b) + b * b := by
  rw [Int.add_mul, Int.mul_add, Int.mul_add, Int.mul_comm b a]; omega

theorem room_grow {p q m p' q' dx dy : Int} {r r' : Bool} (hm : 0 ≤ m) (hp : 1 ≤ p) (hp' : 1 ≤ p') : roomV (p + m) (q + m) r p' q' r' dx dy ≤ roomV p q r p' q' r' dx dy := by
  unfold roomV
  cases r <;> cases r' <;> simp only [Bool.false_eq_true, if_false, if_true]
  · omega
  · have h1 := sq_le (a := max (dx - (p + m)) 0) (b := max (dx - p) 0) (by omega) (by omega)
    have h2 := sq_le (a := max (dy - (q + m)) 0) (b := max (dy - q) 0) (by omega) (by omega)
    omega
  · have h1 := sq_le (a := p) (b := p + m) (by omega) (by omega)
    omega
  · have h1 := sq_le (a := p + p') (b := p + m + p') (by omega) (by omega)
    omega

/-- A circle about a box. -/
theorem room_circle {p q p' q' dx dy : Int} {r' : Bool} (hp : 1 ≤ p) (hq : 1 ≤ q) (hp' : 1 ≤ p') (hdx : 0 ≤ dx) (hdy : 0 ≤ dy) :
    (roomV p q false p' q' r' dx dy < 0 → roomV (p + q) (p + q) true p' q' r' dx dy < 0) ∧ (roomV p q false p' q' r' dx dy ≤ 0 → roomV (p + q) (p + q) true p' q' r' dx dy ≤ 0) := by
  unfold roomV
  have hpq : 0 ≤ p * q := Int.mul_nonneg (by omega) (by omega)
  have e1 := sq_add p q
  cases r' <;> simp only [Bool.false_eq_true, if_false, if_true]
  · refine ⟨fun h => ?_, fun h => ?_⟩
    · have h1 := sq_lt (a := max (dx - p') 0) (b := p) (by omega) (by omega)
      have h2 := sq_lt (a := max (dy - q') 0) (b := q) (by omega) (by omega)
      omega
    · have h1 := sq_le (a := max (dx - p') 0) (b := p) (by omega) (by omega)
      have h2 := sq_le (a := max (dy - q') 0) (b := q) (by omega) (by omega)
      omega
  · have hu0 : 0 ≤ max (dx - p) 0 := by omega
    have hv0 : 0 ≤ max (dy - q) 0 := by omega
    have hdxu : dx ≤ p + max (dx - p) 0 := by omega
    have hdyv : dy ≤ q + max (dy - q) 0 := by omega
    generalize max (dx - p) 0 = u at *
    generalize max (dy - q) 0 = v at *
    have s1 := sq_le hdx hdxu
    have s2 := sq_le hdy hdyv
    have s3 := sq_add p u
    have s4 := sq_add q v
    have s5 := sq_add (p + q) p'
    have nu := sq_nn u
    have nv := sq_nn v
    have key : u * u + v * v ≤ p' * p' → p * u + q * v ≤ (p + q) * p' := by
      intro h
      have hu := le_of_sq (a := u) (b := p') (by omega) (by omega)
      have hv := le_of_sq (a := v) (b := p') (by omega) (by omega)
      have m1 : p * u ≤ p * p' := Int.mul_le_mul_of_nonneg_left hu (by omega)
      have m2 : q * v ≤ q * p' := Int.mul_le_mul_of_nonneg_left hv (by omega)
      rw [Int.add_mul]; omega
    refine ⟨fun h => ?_, fun h => ?_⟩
    · have := key (by omega); omega
    · have := key (by omega); omega

/-- A box about a circle. -/
theorem room_box {p p' q' dx dy : Int} {r' : Bool} (hp : 1 ≤ p) (hp' : 1 ≤ p') (hdx : 0 ≤ dx) (hdy : 0 ≤ dy) :
    (roomV p p true p' q' r' dx dy < 0 → roomV p p false p' q' r' dx dy < 0) ∧ (roomV p p true p' q' r' dx dy ≤ 0 → roomV p p false p' q' r' dx dy ≤ 0) := by
  unfold roomV
  cases r' <;> simp only [Bool.false_eq_true, if_false, if_true]
  · have nu := sq_nn (max (dx - p') 0)
    have nv := sq_nn (max (dy - q') 0)
    refine ⟨fun h => ?_, fun h => ?_⟩
    · have h1 := lt_of_sq (a := max (dx - p') 0) (b := p) (by omega) (by omega)
      have h2 := lt_of_sq (a := max (dy - q') 0) (b := p) (by omega) (by omega)
      omega
    · have h1 := le_of_sq (a := max (dx - p') 0) (b := p) (by omega) (by omega)
      have h2 := le_of_sq (a := max (dy - q') 0) (b := p) (by omega) (by omega)
      omega
  · have hu0 : 0 ≤ max (dx - p) 0 := by omega
    have hv0 : 0 ≤ max (dy - p) 0 := by omega
    have hu1 : max (dx - p) 0 = 0 ∨ dx = p + max (dx - p) 0 := by omega
    have hv1 : max (dy - p) 0 = 0 ∨ dy = p + max (dy - p) 0 := by omega
    generalize max (dx - p) 0 = u at *
    generalize max (dy - p) 0 = v at *
    have s5 := sq_add p p'
    have ndx := sq_nn dx
    have ndy := sq_nn dy
    have npp : 0 < p' * p' := Int.mul_pos (by omega) (by omega)
    have nuu := sq_nn u
    have nvv := sq_nn v
    rcases hu1 with e | e <;> rcases hv1 with e' | e'
    · rw [e, e']; exact ⟨fun h => by omega, fun h => by omega⟩
    · rw [e]
      refine ⟨fun h => ?_, fun h => ?_⟩
      · have h1 := lt_of_sq (a := dy) (b := p + p') (by omega) (by omega)
        have h2 := sq_lt (a := v) (b := p') hv0 (by omega)
        omega
      · have h1 := le_of_sq (a := dy) (b := p + p') (by omega) (by omega)
        have h2 := sq_le (a := v) (b := p') hv0 (by omega)
        omega
    · rw [e']
      refine ⟨fun h => ?_, fun h => ?_⟩
      · have h1 := lt_of_sq (a := dx) (b := p + p') (by omega) (by omega)
        have h2 := sq_lt (a := u) (b := p') hu0 (by omega)
        omega
      · have h1 := le_of_sq (a := dx) (b := p + p') (by omega) (by omega)
        have h2 := sq_le (a := u) (b := p') hu0 (by omega)
        omega
    · have s1 := sq_add p u
      have s2 := sq_add p v
      have s3 := sq_add u v
      have nuv : 0 ≤ u * v := Int.mul_nonneg hu0 hv0
      have npp2 : 0 < p * p := Int.mul_pos (by omega) (by omega)
      rw [← e] at s1
      rw [← e'] at s2
      have big : p' * p' ≤ u * u + v * v → p * p' ≤ p * u + p * v := by
        intro h
        have h1 := le_of_sq (a := p') (b := u + v) (by omega) (by omega)
        have := Int.mul_le_mul_of_nonneg_left h1 (show 0 ≤ p by omega)
        rw [Int.mul_add] at this; omega
      refine ⟨fun h => ?_, fun h => ?_⟩
      · rcases Int.lt_or_le (u * u + v * v) (p' * p') with h1 | h1
        · omega
        · have := big h1; omega
      · rcases Int.lt_or_le (u * u + v * v) (p' * p') with h1 | h1
        · omega
        · have := big h1; omega

/-- Whatever a body overlaps, meets or has, another one does. -/
structure Body.Covers (c a : Body) : Prop where
  ok : c.ok = true
  ov : ∀ b : Body, b.Made → a.far b < 0 → c.far b < 0
  me : ∀ b : Body, b.Made → a.far b ≤ 0 → c.far b ≤ 0
  has : ∀ p, a.has p = true → c.has p = true
theorem Body.Covers.none {c a b : Body} {p : Vec} (h : c.Covers a) (hb : b.Made) (hbo : b.ok = true) : ((a.over b && !c.over b) || (a.meets b && !c.meets b) || (a.has p && !c.has p)) = false := by
  have h1 : a.over b = true → c.over b = true := fun e => by
    simp only [Body.over, Bool.and_eq_true, decide_eq_true_eq] at e ⊢
    exact ⟨⟨h.ok, hbo⟩, h.ov b hb e.2⟩
  have h2 : a.meets b = true → c.meets b = true := fun e => by
    simp only [Body.meets, Bool.and_eq_true, decide_eq_true_eq] at e ⊢
    exact ⟨⟨h.ok, hbo⟩, h.me b hb e.2⟩
  have h3 := h.has p
  cases e1 : a.over b <;> cases e2 : a.meets b <;> cases e3 : a.has p <;> simp_all

theorem covers_grow {a : Body} {m : Int} (ha : a.Made) (h0 : 0 ≤ m) (h1 : m ≤ 100) : Body.Covers ⟨a.iD, a.posX, a.posY, a.velX, a.velY, a.w + m, a.h + m, a.round, a.fixed⟩ a := by
  obtain ⟨a1, a2, a3, a4, a5, a6, a7, a8, a9⟩ := ha.m
  have hok : Body.ok ⟨a.iD, a.posX, a.posY, a.velX, a.velY, a.w + m, a.h + m, a.round, a.fixed⟩ = true :=
    ok_iff.2 ⟨by simp only [ha.i]; omega, by simp only []; omega, by simp only []; omega, by simp only [ha.u]; omega, by simp only [ha.v]; omega, by simp only []; omega, by simp only []; omega, fun h => by have := a9 h; simp only []; omega, fun _ => ⟨ha.u, ha.v⟩⟩
  refine ⟨hok, fun b hb h => ?_, fun b hb h => ?_, fun p hp => ?_⟩
  · have := room_grow (q := a.h) (q' := b.h) (dx := max (a.posX - b.posX) (-(a.posX - b.posX))) (dy := max (a.posY - b.posY) (-(a.posY - b.posY))) (r := a.round) (r' := b.round) h0 a5 hb.m.p1
    unfold Body.far farV at h ⊢
    simp only
    omega
  · have := room_grow (q := a.h) (q' := b.h) (dx := max (a.posX - b.posX) (-(a.posX - b.posX))) (dy := max (a.posY - b.posY) (-(a.posY - b.posY))) (r := a.round) (r' := b.round) h0 a5 hb.m.p1
    unfold Body.far farV at h ⊢
    simp only
    omega
  · obtain ⟨-, h2, h3, h4⟩ := has_iff.1 hp
    refine has_iff.2 ⟨hok, by simp only []; omega, by simp only []; omega, fun hr => ?_⟩
    have h5 := h4 hr
    have := sq_le (a := a.w) (b := a.w + m) (by omega) (by omega)
    simp only
    omega
theorem covers_circle {a : Body} (ha : a.Made) (hr : a.round = false) : Body.Covers ⟨a.iD, a.posX, a.posY, a.velX, a.velY, a.w + a.h, a.w + a.h, true, a.fixed⟩ a := by
  obtain ⟨a1, a2, a3, a4, a5, a6, a7, a8, a9⟩ := ha.m
  have hok : Body.ok ⟨a.iD, a.posX, a.posY, a.velX, a.velY, a.w + a.h, a.w + a.h, true, a.fixed⟩ = true :=
    ok_iff.2 ⟨by simp only [ha.i]; omega, by simp only []; omega, by simp only []; omega, by simp only [ha.u]; omega, by simp only [ha.v]; omega, by simp only []; omega, by simp only []; omega, fun _ => rfl, fun _ => ⟨ha.u, ha.v⟩⟩
  have key := fun b : Body => fun hb : b.Made => room_circle (q' := b.h) (dx := max (a.posX - b.posX) (-(a.posX - b.posX))) (dy := max (a.posY - b.posY) (-(a.posY - b.posY))) (r' := b.round) a5 a7 hb.m.p1 (by omega) (by omega)
  refine ⟨hok, fun b hb h => ?_, fun b hb h => ?_, fun p hp => ?_⟩
  · unfold Body.far farV at h ⊢
    rw [hr] at h
    exact (key b hb).1 h
  · unfold Body.far farV at h ⊢
    rw [hr] at h
    exact (key b hb).2 h
  · obtain ⟨-, h2, h3, -⟩ := has_iff.1 hp
    refine has_iff.2 ⟨hok, by simp only []; omega, by simp only []; omega, fun _ => ?_⟩
    have e1 := sq_add a.w a.h
    have hpq : 0 ≤ a.w * a.h := Int.mul_nonneg (by omega) (by omega)
    have s1 := sq_le (a := max (p.x - a.posX) (-(p.x - a.posX))) (b := a.w) (by omega) (by omega)
    have s2 := sq_le (a := max (p.y - a.posY) (-(p.y - a.posY))) (b := a.h) (by omega) (by omega)
    rw [absq] at s1 s2
    simp only
    omega
theorem covers_box {a : Body} (ha : a.Made) (hr : a.round = true) : Body.Covers ⟨a.iD, a.posX, a.posY, a.velX, a.velY, a.w, a.h, false, a.fixed⟩ a := by
  obtain ⟨a1, a2, a3, a4, a5, a6, a7, a8, a9⟩ := ha.m
  have hwh := a9 hr
  have hok : Body.ok ⟨a.iD, a.posX, a.posY, a.velX, a.velY, a.w, a.h, false, a.fixed⟩ = true :=
    ok_iff.2 ⟨by simp only [ha.i]; omega, by simp only []; omega, by simp only []; omega, by simp only [ha.u]; omega, by simp only [ha.v]; omega, by simp only []; omega, by simp only []; omega, (fun h => by cases h), fun _ => ⟨ha.u, ha.v⟩⟩
  have key := fun b : Body => fun hb : b.Made => room_box (q' := b.h) (dx := max (a.posX - b.posX) (-(a.posX - b.posX))) (dy := max (a.posY - b.posY) (-(a.posY - b.posY))) (r' := b.round) a5 hb.m.p1 (by omega) (by omega)
  refine ⟨hok, fun b hb h => ?_, fun b hb h => ?_, fun p hp => ?_⟩
  · unfold Body.far farV at h ⊢
    rw [hr, ← hwh] at h
    simp only [← hwh]
    exact (key b hb).1 h
  · unfold Body.far farV at h ⊢
    rw [hr, ← hwh] at h
    simp only [← hwh]
    exact (key b hb).2 h
  · obtain ⟨-, h2, h3, -⟩ := has_iff.1 hp
    exact has_iff.2 ⟨hok, h2, h3, fun h => by cases h⟩
end Go.Proofs.YtggcfjeehpcclaaDoor
