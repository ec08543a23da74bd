/- where. wrong, Meets, Part, Before. -/
import Derived.Test.YtjdohgcolhpegaaGreatDoorM8
namespace Go.Proofs.YtjdohgcolhpegaaGreatDoor
open Go.RowKit

def segA (p q : Vec) : Int := (q.x - p.x) * (q.x - p.x) + (q.y - p.y) * (q.y - p.y)
def segH (b : Body) (p q : Vec) : Int := (q.x - p.x) * (b.posX - p.x) + (q.y - p.y) * (b.posY - p.y)
def segC (b : Body) (p : Vec) : Int := (b.posX - p.x) * (b.posX - p.x) + (b.posY - p.y) * (b.posY - p.y) - b.w * b.w
def segS (b : Body) (p q : Vec) : Int := segH b p q * segH b p q - segA p q * segC b p
def Body.ent (b : Body) (p q : Vec) : Plc × Bool := enterP b.low b.high p q
def apart (b : Body) (p q : Vec) : Bool := decide (segA p q = 0) || decide (segH b p q < 0) || decide (segS b p q < 0)
def whereP (b : Body) (p q : Vec) : Plc × Bool := match !(b.ent p q).2 || !b.round with
  | true => b.ent p q
  | false => match decide (segC b p ≤ 0) with
    | true => (⟨0, 0, 1⟩, true)
    | false => match apart b p q with
      | true => (⟨0, 0, 0⟩, false)
      | false => (⟨segH b p q, segS b p q, segA p q⟩, decide (ordP ⟨segH b p q, segS b p q, segA p q⟩ ⟨1, 0, 1⟩ ≤ 0))
theorem low_in (b : Body) : b.low.In := by
  unfold Body.low
  split
  · rename_i h
    obtain ⟨-, h1, h2, h3, h4, -⟩ := Body.Ok.of h
    constructor <;> (simp only; omega)
  · constructor <;> (simp only; omega)
theorem high_in (b : Body) : b.high.In := by
  unfold Body.high
  split
  · rename_i h
    obtain ⟨-, h1, h2, h3, h4, -⟩ := Body.Ok.of h
    constructor <;> (simp only; omega)
  · constructor <;> (simp only; omega)
theorem short_of {p q : Vec} (h : shortB p q = true) : (-8192 ≤ q.x - p.x ∧ q.x - p.x ≤ 8192) ∧ -8192 ≤ q.y - p.y ∧ q.y - p.y ≤ 8192 := by
  unfold shortB at h
  simp only [decide_eq_true_eq] at h
  omega
theorem slab_near {fr way x w a b : Int} (hb : 0 < b) (ha : 0 ≤ a) (hab : a ≤ b) (h : Slab fr way (x - w) (x + w) a b) (hw : -8192 ≤ way ∧ way ≤ 8192) : -(w + 8192) ≤ x - fr ∧ x - fr ≤ w + 8192 := by
  obtain ⟨h1, h2⟩ := h
  have k1 := Int.mul_le_mul_of_nonneg_left hw.1 ha
  have k2 := Int.mul_le_mul_of_nonneg_left hw.2 ha
  have e1 : b * (x - fr) ≤ b * (w + 8192) := by rw [Int.mul_sub, Int.mul_add]; rw [Int.mul_sub] at h1; omega
  have e2 : b * (-(w + 8192)) ≤ b * (x - fr) := by rw [Int.mul_sub, Int.mul_neg, Int.mul_add]; rw [Int.mul_add] at h2; omega
  exact ⟨Int.le_of_mul_le_mul_left e2 hb, Int.le_of_mul_le_mul_left e1 hb⟩
/-- What is near: the middle of a body whose bounds the segment meets. -/
theorem near_of {b : Body} {p q : Vec} (hb : b.ok = true) (hs : shortB p q = true) (h : (b.ent p q).2 = true) : (-24576 ≤ b.posX - p.x ∧ b.posX - p.x ≤ 24576) ∧ -24576 ≤ b.posY - p.y ∧ b.posY - p.y ≤ 24576 := by
  obtain ⟨r, h0, h1, ⟨s1, s2⟩, -⟩ := enter_yes h
  obtain ⟨-, -, -, w1, w2, -⟩ := Body.Ok.of hb
  have el : b.low = ⟨b.posX - b.w, b.posY - b.h⟩ := by unfold Body.low; rw [hb]
  have eh : b.high = ⟨b.posX + b.w, b.posY + b.h⟩ := by unfold Body.high; rw [hb]
  have x1 : b.low.x = b.posX - b.w := by rw [el]
  have y1 : b.low.y = b.posY - b.h := by rw [el]
  have x2 : b.high.x = b.posX + b.w := by rw [eh]
  have y2 : b.high.y = b.posY + b.h := by rw [eh]
  rw [x1, x2] at s1
  rw [y1, y2] at s2
  obtain ⟨t1, t2⟩ := short_of hs
  have k1 := slab_near r.m h0 h1 s1 t1
  have k2 := slab_near r.m h0 h1 s2 t2
  omega
theorem mul_bd {x y a b : Int} (hx : -a ≤ x ∧ x ≤ a) (hy : -b ≤ y ∧ y ≤ b) : -(a * b) ≤ x * y ∧ x * y ≤ a * b := by
  have ha : 0 ≤ a := by omega
  rcases Int.le_total 0 y with k | k
  · exact mul_rng hx ⟨k, hy.2⟩
  · have := mul_rng hx (y := -y) (b := b) ⟨by omega, by omega⟩
    rw [Int.mul_neg] at this
    omega
structure SegRng (b : Body) (p q : Vec) : Prop where
  a : 0 ≤ segA p q ∧ segA p q ≤ 134217728
  h : -402653184 ≤ segH b p q ∧ segH b p q ≤ 402653184
  c : -268435456 ≤ segC b p ∧ segC b p ≤ 1207959552
  hh : 0 ≤ segH b p q * segH b p q ∧ segH b p q * segH b p q ≤ 162129586585337856
  ac : 0 < segC b p → 0 ≤ segA p q * segC b p ∧ segA p q * segC b p ≤ 162129586585337856
theorem seg_rng {b : Body} {p q : Vec} (hb : b.ok = true) (hs : shortB p q = true) (h : (b.ent p q).2 = true) : SegRng b p q := by
  obtain ⟨n1, n2⟩ := near_of hb hs h
  obtain ⟨t1, t2⟩ := short_of hs
  obtain ⟨-, -, -, w1, w2, -⟩ := Body.Ok.of hb
  have a1 := sq_bd t1
  have a2 := sq_bd t2
  have h1 := mul_bd t1 n1
  have h2 := mul_bd t2 n2
  have c1 := sq_bd n1
  have c2 := sq_bd n2
  have c3 := sq_bd (x := b.w) (a := 16384) (by omega)
  have ra : 0 ≤ segA p q ∧ segA p q ≤ 134217728 := by unfold segA; omega
  have rh : -402653184 ≤ segH b p q ∧ segH b p q ≤ 402653184 := by unfold segH; omega
  have rc : -268435456 ≤ segC b p ∧ segC b p ≤ 1207959552 := by unfold segC; omega
  refine ⟨ra, rh, rc, Int.le_refl 0 |> fun _ => sq_bd rh, fun hc => ⟨Int.mul_nonneg ra.1 (by omega), Int.mul_le_mul ra.2 rc.2 (by omega) (by decide)⟩⟩
theorem apart_of {b : Body} {p q : Vec} (h : apart b p q = false) : segA p q ≠ 0 ∧ 0 ≤ segH b p q ∧ 0 ≤ segS b p q := by
  unfold apart at h
  simp only [Bool.or_eq_false_iff, decide_eq_false_iff_not] at h
  omega
theorem axis_in {fr way lo hi : Int} {x y : Plc × Plc} (h : axis fr way lo hi x = some y) (hf : -2097152 ≤ fr ∧ fr ≤ 2097152) (hw : -4194304 ≤ way ∧ way ≤ 4194304) (hl : -2097152 ≤ lo ∧ lo ≤ 2097152) (hh : -2097152 ≤ hi ∧ hi ≤ 2097152) (h1 : x.1.In) (h2 : x.2.In) : y.1.In ∧ y.2.In := by
  unfold axis at h
  split at h
  · cases h
  · split at h
    · obtain rfl := Option.some.inj h; exact ⟨h1, h2⟩
    · obtain rfl := Option.some.inj h
      have k1 : (inP fr way lo hi).In := by unfold inP; split <;> (rename_i hn; simp only [decide_eq_true_eq, decide_eq_false_iff_not] at hn; exact plcIn (by omega) (by omega))
      have k2 : (outP fr way lo hi).In := by unfold outP; split <;> (rename_i hn; simp only [decide_eq_true_eq, decide_eq_false_iff_not] at hn; exact plcIn (by omega) (by omega))
      exact ⟨by unfold maxP; split <;> assumption, by unfold minP; split <;> assumption⟩
theorem enter_in {low high p q : Vec} (hl : low.In) (hh : high.In) (hp : p.In) (hq : q.In) : (enterP low high p q).1.In := by
  obtain ⟨a1, a2⟩ := hl
  obtain ⟨b1, b2⟩ := hh
  obtain ⟨c1, c2⟩ := hp
  obtain ⟨d1, d2⟩ := hq
  unfold enterP
  split
  · exact plcIn (by omega) (by omega)
  · rename_i x hx
    obtain ⟨k1, k2⟩ := axis_in hx c1 (by omega) a1 b1 (plcIn (by omega) (by omega)) (plcIn (by omega) (by omega))
    split
    · exact plcIn (by omega) (by omega)
    · rename_i y hy
      exact (axis_in hy c2 (by omega) a2 b2 k1 k2).1
theorem where_in {b : Body} {p q : Vec} (hb : b.ok = true) (hp : p.In) (hq : q.In) (hs : shortB p q = true) : (whereP b p q).1.In := by
  unfold whereP
  split
  · exact enter_in (low_in b) (high_in b) hp hq
  · rename_i h
    simp only [Bool.or_eq_false_iff, Bool.not_eq_false'] at h
    have r := seg_rng hb hs h.1
    split
    · exact plcIn (by omega) (by omega)
    · rename_i hc
      have hc := of_decide_eq_false hc
      split
      · exact plcIn (by omega) (by omega)
      · rename_i ha
        obtain ⟨k1, k2, k3⟩ := apart_of ha
        have ra := r.a
        have rh := r.h
        have rhh := r.hh
        have rac := r.ac (by omega)
        exact ⟨⟨by show -536870912 ≤ segH b p q; omega, by show segH b p q ≤ 536870912; omega⟩, ⟨k3, by show segS b p q ≤ 288230376151711744; unfold segS; omega⟩, ⟨ra.1, by show segA p q ≤ 134217728; omega⟩⟩
set_option maxHeartbeats 4000000 in
set_option maxRecDepth 8000 in
theorem Where_walk : ∀ a, conj ((fun a => [a.1.ok = true, a.2.1.In, a.2.2.In, shortB a.2.1 a.2.2 = true]) a) → evFn (C := cx) [conBounds, conEnter, conOrd] [] 0 ⟨[13], [], [], 0⟩ Tryz.f63 (((rds3 rdBody rdVec rdVec)).enc a) fun v H _ => resOut ((fun a => .tup [(whereP a.1 a.2.1 a.2.2).1.sv, .v (.bool (whereP a.1 a.2.1 a.2.2).2)]) a) H v := by
  intro ⟨b, p, q⟩ ⟨hb, hp, hq, hs⟩
  replace hb : b.ok = true := hb
  replace hp : p.In := hp
  replace hq : q.In := hq
  replace hs : shortB p q = true := hs
  refine And.intro ⟨low_in b, high_in b, hp, hq⟩ ?_
  refine And.intro (fun h1 => ?_) (fun h1 => ?_)
  · have h1 : (!(b.ent p q).2 || !b.round) = true := h1
    have he : whereP b p q = b.ent p q := by unfold whereP; rw [h1]
    simp only [he]
    repeat' (first | (refine And.intro ?_ ?_) | (intro _) | exact rfl)
  have h1 : (!(b.ent p q).2 || !b.round) = false := h1
  have h1' := h1
  simp only [Bool.or_eq_false_iff, Bool.not_eq_false'] at h1'
  obtain ⟨ra, rh, rc, rhh, rac⟩ := seg_rng hb hs h1'.1
  obtain ⟨n1, n2⟩ := near_of hb hs h1'.1
  obtain ⟨t1, t2⟩ := short_of hs
  obtain ⟨-, -, -, w1, w2, -⟩ := Body.Ok.of hb
  have a1 := sq_bd t1
  have a2 := sq_bd t2
  have m1 := mul_bd t1 n1
  have m2 := mul_bd t2 n2
  have c1 := sq_bd n1
  have c2 := sq_bd n2
  have c3 := sq_bd (x := b.w) (a := 16384) (by omega)
  refine And.intro (by unfold I64; omega : I64 (q.x - p.x)) ?_
  refine And.intro (by unfold I64; omega : I64 (q.y - p.y)) ?_
  refine And.intro (by unfold I64; omega : I64 (b.posX - p.x)) ?_
  refine And.intro (by unfold I64; omega : I64 (b.posY - p.y)) ?_
  refine And.intro (by unfold I64; omega : I64 ((q.x - p.x) * (q.x - p.x))) ?_
  refine And.intro (by unfold I64; omega : I64 ((q.y - p.y) * (q.y - p.y))) ?_
  refine And.intro (by unfold I64; omega : I64 (segA p q)) ?_
  refine And.intro (by unfold I64; omega : I64 ((q.x - p.x) * (b.posX - p.x))) ?_
  refine And.intro (by unfold I64; omega : I64 ((q.y - p.y) * (b.posY - p.y))) ?_
  refine And.intro (by unfold I64; omega : I64 (segH b p q)) ?_
  refine And.intro (by unfold I64; omega : I64 ((b.posX - p.x) * (b.posX - p.x))) ?_
  refine And.intro (by unfold I64; omega : I64 ((b.posY - p.y) * (b.posY - p.y))) ?_
  refine And.intro (by unfold I64; omega : I64 ((b.posX - p.x) * (b.posX - p.x) + (b.posY - p.y) * (b.posY - p.y))) ?_
  refine And.intro (by unfold I64; omega : I64 (b.w * b.w)) ?_
  refine And.intro (by unfold I64; omega : I64 (segC b p)) ?_
  refine And.intro (fun h2 => ?_) (fun h2 => ?_)
  · have h2 : decide (segC b p ≤ 0) = true := h2
    have he : whereP b p q = (⟨0, 0, 1⟩, true) := by unfold whereP; rw [h1, h2]
    simp only [he]
    repeat' (first | (refine And.intro ?_ ?_) | (intro _) | exact rfl)
  have h2 : decide (segC b p ≤ 0) = false := h2
  have rac := rac (by have := of_decide_eq_false h2; omega)
  refine And.intro (by unfold I64; omega : I64 (segH b p q * segH b p q)) ?_
  refine And.intro (by unfold I64; omega : I64 (segA p q * segC b p)) ?_
  refine And.intro (by unfold I64; omega : I64 (segH b p q * segH b p q - segA p q * segC b p)) ?_
  refine And.intro (fun h3 => ?_) (fun h3 => ?_)
  · have h3 : apart b p q = true := h3
    have he : whereP b p q = (⟨0, 0, 0⟩, false) := by unfold whereP; rw [h1, h2, h3]
    simp only [he]
    repeat' (first | (refine And.intro ?_ ?_) | (intro _) | exact rfl)
  have h3 : apart b p q = false := h3
  have he : whereP b p q = (⟨segH b p q, segS b p q, segA p q⟩, decide (ordP ⟨segH b p q, segS b p q, segA p q⟩ ⟨1, 0, 1⟩ ≤ 0)) := by unfold whereP; rw [h1, h2, h3]
  have hi := where_in hb hp hq hs
  simp only [he] at hi ⊢
  have io : Plc.In ⟨1, 0, 1⟩ := plcIn (by omega) (by omega)
  refine And.intro ⟨hi, io⟩ ?_
  repeat' (first | (refine And.intro ?_ ?_) | (intro _) | exact rfl)
noncomputable def conWhere : Con cx := walkCon 63 Tryz.call63 (rds3 rdBody rdVec rdVec) (fun a => [a.1.ok = true, a.2.1.In, a.2.2.In, shortB a.2.1 a.2.2 = true]) (fun a => .tup [(whereP a.1 a.2.1 a.2.2).1.sv, .v (.bool (whereP a.1 a.2.1 a.2.2).2)]) (fun _ => ⟨[13], [], [], 0⟩) [13] (fun _ => rfl) follows Tryz.func63 (by kernel_rfl) Where_walk
end Go.Proofs.YtjdohgcolhpegaaGreatDoor
namespace Go.Proofs.YtjdohgcolhpegaaGreatDoor
open Go.RowKit

/-- A list of bodies. -/
def rdBodies : Rd (Nat × (Nat → Body)) := ⟨.rs 9 0 fun _ => rdBody.pat.al, fun x => (x.rn, fun i => Body.of (.agg (x.rf i))), fun a => .rs 9 a.1 fun i => (a.2 i).cells, fun _ => rfl⟩
def badN (F : Nat → Body) : Nat → Nat → Bool
  | _, 0 => false
  | k, r + 1 => match !(F k).ok with | true => true | false => badN F (k + 1) r
theorem badN_step {F : Nat → Body} {k n : Nat} (h : k < n) : badN F k (n - k) = match !(F k).ok with | true => true | false => badN F (k + 1) (n - (k + 1)) := by
  rw [show n - k = (n - (k + 1)) + 1 by omega]; rfl
theorem badN_no {F : Nat → Body} : ∀ {r k : Nat}, badN F k r = false → ∀ i, k ≤ i → i < k + r → (F i).ok = true
  | 0, k, _, i, h1, h2 => by omega
  | r + 1, k, h, i, h1, h2 => by
    simp only [badN] at h
    split at h
    · cases h
    · rename_i hk
      rcases Nat.eq_or_lt_of_le h1 with rfl | h1
      · simpa using hk
      · exact badN_no h i h1 (by omega)
theorem badN_of {F : Nat → Body} : ∀ {r k : Nat}, (∀ i, k ≤ i → i < k + r → (F i).ok = true) → badN F k r = false
  | 0, k, _ => rfl
  | r + 1, k, h => by
    simp only [badN, h k (Nat.le_refl _) (by omega), Bool.not_true]
    exact badN_of fun i h1 h2 => h i (by omega) (by omega)
def wrongE (p q : Vec) (n : Nat) (F : Nat → Body) : Int := match !p.inB with
  | true => 2
  | false => match !q.inB with
    | true => 2
    | false => match badN F 0 n with
      | true => 2
      | false => match !shortB p q with
        | true => 3
        | false => 0
theorem wrongE_ok {p q : Vec} {n : Nat} {F : Nat → Body} (h : wrongE p q n F = 0) : p.In ∧ q.In ∧ (∀ i, i < n → (F i).ok = true) ∧ shortB p q = true := by
  unfold wrongE at h
  split at h
  · cases h
  · rename_i h1
    split at h
    · cases h
    · rename_i h2
      split at h
      · cases h
      · rename_i h3
        split at h
        · cases h
        · rename_i h4
          exact ⟨Vec.In.of (by simpa using h1), Vec.In.of (by simpa using h2), fun i hi => badN_no h3 i (Nat.zero_le _) (by omega), by simpa using h4⟩
theorem wrongE_of {p q : Vec} {n : Nat} {F : Nat → Body} (h1 : p.In) (h2 : q.In) (h3 : ∀ i, i < n → (F i).ok = true) (h4 : shortB p q = true) : wrongE p q n F = 0 := by
  unfold wrongE
  rw [Vec.inB_of h1, Vec.inB_of h2, badN_of fun i _ hi => h3 i (by omega), h4]
  rfl
theorem wrongE_rng (p q : Vec) (n : Nat) (F : Nat → Body) : wrongE p q n F = 0 ∨ wrongE p q n F = 2 ∨ wrongE p q n F = 3 := by
  unfold wrongE
  repeat' split
  all_goals simp
noncomputable def inContains : FnI cx := ⟨60, Tryz.call60, Tryz.f60, Tryz.func60, [], [], [], 0, by kernel_rfl⟩
noncomputable def inIndex : FnI cx := ⟨40, Tryz.call40, Tryz.f40, Tryz.func40, [], [], [2], 0, by kernel_rfl⟩
def idxCut (p q : Vec) (n : Nat) (F : Nat → Body) : Cut := ⟨Nat, fun k => k ≤ n ∧ badN F 0 n = badN F k (n - k),
  fun k => ⟨[sl 0 (.rs 9 n fun i => (F i).cells), sl 1 (.v (.func (.func 90) #[] #[])), sl 6 (.rs 9 n fun i => (F i).cells), sl 7 (.v (.int .i64 n)), sl 8 (.v (.int .i64 k))], [(0, .lay p.cells 27), (1, .lay q.cells 27)], 2, 0, [], []⟩, fun k => n - k⟩
set_option maxHeartbeats 2000000 in
set_option maxRecDepth 8000 in
theorem Wrong1_walk : ∀ a, conj ((fun _ => []) a) → evFn (C := cx) [conValid] [] 0 noHow Tryz.f90 (((rds1 rdBody)).enc a) fun v H _ => resOut ((fun b => .v (.bool (!b.ok))) a) H v := by
  intro b _
  exact rfl
noncomputable def conWrong1 : Con cx := walkCon 90 Tryz.call90 (rds1 rdBody) (fun _ => []) (fun b => .v (.bool (!b.ok))) (fun _ => noHow) [] (fun _ => rfl) follows Tryz.func90 (by kernel_rfl) Wrong1_walk
set_option maxHeartbeats 2000000 in
set_option maxRecDepth 8000 in
theorem Wrong_walk : ∀ a, conj ((fun a => [(a.2.2.1 : Int) ≤ 1000000]) a) → evFn (C := cx) [conInside, conWrong1, conShort] [inContains, inIndex] 2 ⟨[1001], [], [], 0⟩ Tryz.f62 (((rds3 rdVec rdVec rdBodies)).enc a) fun v H _ => resOut ((fun a => .v (.int .i64 (wrongE a.1 a.2.1 a.2.2.1 a.2.2.2))) a) H v := by
  intro ⟨p, q, n, F⟩ hn
  replace hn : (n : Int) ≤ 1000000 := hn
  refine And.intro (fun h1 => ?_) (fun h1 => ?_)
  rotate_left
  · have h1 : (!p.inB) = true := h1
    refine Eq.trans (a := wrongE p q n F) (b := 2) ?_ rfl
    unfold wrongE; rw [h1]
  have h1 : (!p.inB) = false := h1
  refine And.intro (fun h2 => ?_) (fun h2 => ?_)
  rotate_left
  · have h2 : (!q.inB) = true := h2
    refine Eq.trans (a := wrongE p q n F) (b := 2) ?_ rfl
    unfold wrongE; rw [h1, h2]
  have h2 : (!q.inB) = false := h2
  have ip : p.In := Vec.In.of (by simpa using h1)
  have iq : q.In := Vec.In.of (by simpa using h2)
  refine Exists.intro (idxCut p q n F) ?_
  refine And.intro ?_ ?_
  · refine ⟨(0 : Nat), [], [], trivial, ⟨Nat.zero_le _, rfl⟩, ?_⟩
    repeat' (first | (refine And.intro ?_ ?_) | (intro _) | exact rfl)
  refine fun (k : Nat) (hk : k ≤ n ∧ badN F 0 n = badN F k (n - k)) => ?_
  obtain ⟨k1, k2⟩ := hk
  refine And.intro (fun hb => ?_) (fun hb => ?_)
  · have hb : (k : Int) < n := of_decide_eq_true hb
    have e := badN_step (F := F) (k := k) (n := n) (by omega)
    refine And.intro ⟨by omega, by omega⟩ ?_
    refine And.intro (fun hc => ?_) (fun hc => ?_)
    · have hc : (!(F k).ok) = true := hc
      rw [hc] at e
      refine And.intro (fun hd => ?_) (fun hd => ?_)
      · refine Eq.trans (a := wrongE p q n F) (b := 2) ?_ rfl
        unfold wrongE; rw [h1, h2, k2, e]
      · have hd := of_decide_eq_false hd
        exact absurd (by omega) hd
    · have hc : (!(F k).ok) = false := hc
      rw [hc] at e
      refine And.intro (by unfold I64; omega : I64 ((k : Int) + 1)) ?_
      refine ⟨k + 1, [], [], (by show n - (k + 1) < n - k; omega), ⟨by omega, by rw [k2, e]⟩, ?_⟩
      repeat' (first | (refine And.intro ?_ ?_) | (intro _) | exact rfl)
  · have hb : ¬ (k : Int) < n := of_decide_eq_false hb
    have e : badN F 0 n = false := by rw [k2, show n - k = 0 by omega]; rfl
    refine And.intro ⟨ip, iq⟩ ?_
    refine And.intro (fun h4 => ?_) (fun h4 => ?_)
    · have h4 : (!shortB p q) = true := h4
      refine Eq.trans (a := wrongE p q n F) (b := 3) ?_ rfl
      unfold wrongE; rw [h1, h2, e, h4]
    · have h4 : (!shortB p q) = false := h4
      refine Eq.trans (a := wrongE p q n F) (b := 0) ?_ rfl
      unfold wrongE; rw [h1, h2, e, h4]
noncomputable def conWrong : Con cx := walkCon 62 Tryz.call62 (rds3 rdVec rdVec rdBodies) (fun a => [(a.2.2.1 : Int) ≤ 1000000]) (fun a => .v (.int .i64 (wrongE a.1 a.2.1 a.2.2.1 a.2.2.2))) (fun _ => ⟨[1001], [], [], 0⟩) [1001] (fun _ => rfl) follows Tryz.func62 (by kernel_rfl) Wrong_walk
end Go.Proofs.YtjdohgcolhpegaaGreatDoor
