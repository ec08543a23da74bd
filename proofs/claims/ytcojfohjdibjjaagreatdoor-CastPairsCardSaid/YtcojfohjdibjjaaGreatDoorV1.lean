/- CastParts. CastPoints: the plain laws. -/
import Derived.Test.YtcojfohjdibjjaaGreatDoorQ9
import Derived.Test.YtcojfohjdibjjaaGreatDoorV0
namespace Go.Proofs.YtcojfohjdibjjaaGreatDoor
open Go.RowKit

theorem madeB_Ok {f : Form} (h : f.Ok) {i : Nat} (hi : i ≤ 20) : (madeB i f).Ok := by
  obtain ⟨⟨f1, f2⟩, ⟨f3, f4⟩, ⟨f5, f6⟩, f7, f8⟩ := h
  have m1 := tmod100 f5
  have m2 := tmod100 f7
  refine ⟨?_, ?_, ?_, ?_, ?_, fun hr => ?_⟩ <;> simp only [madeB] at *
  · omega
  · omega
  · omega
  · omega
  · cases f.round <;> simp only [cond_true, cond_false] <;> omega
  · rw [hr]; rfl
theorem madeB_ok {f : Form} (h : f.Ok) {i : Nat} (hi : i ≤ 20) : (madeB i f).ok = true := Body.ok_of (madeB_Ok h hi) ⟨rfl, rfl⟩
theorem step_rng (dx dy : Int) : (-15 ≤ (stepV dx dy).x ∧ (stepV dx dy).x ≤ 15) ∧ -15 ≤ (stepV dx dy).y ∧ (stepV dx dy).y ≤ 15 := ⟨tmod16 dx, tmod16 dy⟩
structure Near (p v : Vec) : Prop where
  x : -384 ≤ p.x ∧ p.x ≤ 384
  y : -384 ≤ p.y ∧ p.y ≤ 384
  vx : -15 ≤ v.x ∧ v.x ≤ 15
  vy : -15 ≤ v.y ∧ v.y ≤ 15
theorem near_ends {x y dx dy : Int} (hx : I8 x) (hy : I8 y) : Near (begV x y) (stepV dx dy) := by
  unfold I8 at hx hy
  exact ⟨⟨by simp only [begV]; omega, by simp only [begV]; omega⟩, ⟨by simp only [begV]; omega, by simp only [begV]; omega⟩, tmod16 dx, tmod16 dy⟩
theorem Near.go {p v : Vec} (h : Near p v) {n : Int} (hn : 0 ≤ n ∧ n ≤ 100) : (-1884 ≤ (goV p v n).x ∧ (goV p v n).x ≤ 1884) ∧ (-1884 ≤ (goV p v n).y ∧ (goV p v n).y ≤ 1884) ∧ (-1500 ≤ n * v.x ∧ n * v.x ≤ 1500) ∧ -1500 ≤ n * v.y ∧ n * v.y ≤ 1500 := by
  have b1 := mul_bd (x := n) (y := v.x) (a := 100) (b := 15) (by omega) h.vx
  have b2 := mul_bd (x := n) (y := v.y) (a := 100) (b := 15) (by omega) h.vy
  have := h.x
  have := h.y
  refine ⟨⟨?_, ?_⟩, ⟨?_, ?_⟩, by omega, by omega⟩ <;> simp only [goV] <;> omega
theorem Near.inV {p v : Vec} (h : Near p v) {n : Int} (hn : 0 ≤ n ∧ n ≤ 100) : (goV p v n).In := by
  obtain ⟨h1, h2, -⟩ := h.go hn
  exact ⟨by omega, by omega⟩
theorem Near.inP {p v : Vec} (h : Near p v) : p.In := by
  have := h.x
  have := h.y
  exact ⟨by omega, by omega⟩
theorem Near.short {p v : Vec} (h : Near p v) {n : Int} (hn : 0 ≤ n ∧ n ≤ 100) : shortB p (goV p v n) = true := by
  obtain ⟨-, -, h1, h2⟩ := h.go hn
  unfold shortB
  rw [goV_x, goV_y]
  exact decide_eq_true (by omega)
theorem Near.short0 {p v : Vec} (h : Near p v) : shortB p p = true := by
  have := h.short (n := 0) (by omega)
  rwa [goV_0] at this
section
variable {b : Body} {p v : Vec} (hb : b.ok = true) (h : Near p v)
include hb h
theorem Near.meets {n : Int} (hn : 0 ≤ n ∧ n ≤ 100) : meetsB b p (goV p v n) = (whereP b p (goV p v n)).2 := meets_eq hb h.inP (h.inV hn) (h.short hn)
theorem Near.part {n : Int} (hn : 0 ≤ n ∧ n ≤ 100) : partE b p (goV p v n) = match !meetsB b p (goV p v n) with | true => (0, 6) | false => ((partW (whereP b p (goV p v n)).1 : Int), 0) := by
  rw [h.meets hb hn]
  exact part_val hb h.inP (h.inV hn) (h.short hn)
theorem Near.part_meets {n i : Int} (hn : 0 < n ∧ n ≤ 100) (hi : 0 ≤ i ∧ i ≤ n) : meetsB b p (goV p v i) = true ↔ meetsB b p (goV p v n) = true ∧ (whereP b p (goV p v n)).1.le i n := by
  rw [h.meets hb ⟨by omega, by omega⟩, h.meets hb ⟨by omega, by omega⟩]
  exact Go.Proofs.YtcojfohjdibjjaaGreatDoor.part_meets hb hn.1 hi.1 hi.2
theorem Near.point : b.hasB p = meetsB b p p := by
  have := h.meets hb (n := 0) (by omega)
  rw [goV_0] at this
  rw [this, has_point hb]
end
/-- The law, in plain words: 64 steps. -/
theorem parts_step {b : Body} {p v : Vec} (hb : b.ok = true) (h : Near p v) (hm : meetsB b p (goV p v 64) = true) {i : Nat} (hi : i ≤ 64) : ((partW (whereP b p (goV p v 64)).1 : Int) < i * 1024 → meetsB b p (goV p v i) = true) ∧ ((i : Int) * 1024 < partW (whereP b p (goV p v 64)).1 → meetsB b p (goV p v i) = false) := by
  have hm' := hm
  rw [h.meets hb (by omega)] at hm'
  obtain ⟨wm, ws⟩ := where_pos hm'
  have pm := h.part_meets hb (n := 64) (i := i) (by omega) (by omega)
  generalize (whereP b p (goV p v 64)).1 = w at *
  constructor
  · intro hlt
    rw [pm]
    refine ⟨hm, Plc.le_mono wm (by decide) (by decide) (Plc.lt_le (partW_ge ws (by omega))) ?_⟩
    omega
  · intro hlt
    cases hc : meetsB b p (goV p v i) with
    | false => rfl
    | true =>
      obtain ⟨-, hle⟩ := pm.1 hc
      have hlt' := Plc.le_lt (a' := (partW w : Int)) (b' := 65536) wm (by decide) (by decide) hle (by omega)
      have := partW_lt ws wm (i := partW w - 1) (w := w) (by omega)
      rw [show ((partW w - 1 : Nat) : Int) + 1 = partW w by omega] at this
      exact absurd hlt' this
theorem parts_end {b : Body} {p v : Vec} (hb : b.ok = true) (h : Near p v) (hm : meetsB b p (goV p v 64) = true) : b.hasB p = (decide ((partW (whereP b p (goV p v 64)).1 : Int) = 0) && meetsB b p p) := by
  rw [h.point hb]
  cases hc : meetsB b p p with
  | false => simp
  | true =>
    have hm' := hm
    rw [h.meets hb (by omega)] at hm'
    obtain ⟨wm, ws⟩ := where_pos hm'
    have pm := h.part_meets hb (n := 64) (i := 0) (by omega) (by omega)
    rw [goV_0] at pm
    have hle := (pm.1 hc).2
    have h0 : partW (whereP b p (goV p v 64)).1 = 0 := by
      rcases Nat.eq_zero_or_pos (partW (whereP b p (goV p v 64)).1) with e | e
      · exact e
      · exact absurd (Plc.le_lt (a' := 1) (b' := 65536) wm (by decide) (by decide) hle (by decide)) (partW_lt ws wm e)
    rw [h0]
    rfl
def partsCut (b : Body) (p v : Vec) : Cut := ⟨Nat, fun i => i ≤ 65,
  fun i => ⟨[sl 11 (.p 2 0), sl 12 (.p 3 0), sl 14 (.p 5 0), sl 15 (.v (.int .i64 (partW (whereP b p (goV p v 64)).1))), sl 17 (.v (.int .i64 i))], [(2, .lay b.cells 36), (3, .lay p.cells 28), (5, .lay v.cells 28)], 6, 0, [], []⟩, fun i => 65 - i⟩
end Go.Proofs.YtcojfohjdibjjaaGreatDoor
namespace Go.Proofs.YtcojfohjdibjjaaGreatDoor
open Go.RowKit

/-- All numbers that the statements' bodies have. -/
structure Body.Sm (b : Body) : Prop where
  id : 0 ≤ b.iD ∧ b.iD ≤ 1000
  x : -2000 ≤ b.posX ∧ b.posX ≤ 2000
  y : -2000 ≤ b.posY ∧ b.posY ≤ 2000
  w : 1 ≤ b.w ∧ b.w ≤ 1000
  h : 1 ≤ b.h ∧ b.h ≤ 1000
  r : b.round = true → b.w = b.h
  v : b.velX = 0 ∧ b.velY = 0
theorem Body.Sm.ok {b : Body} (h : b.Sm) : b.ok = true := by
  have h1 := h.id
  have h2 := h.x
  have h3 := h.y
  have h4 := h.w
  have h5 := h.h
  exact Body.ok_of ⟨by omega, by omega, by omega, by omega, by omega, h.r⟩ h.v
theorem madeB_Sm {f : Form} (h : f.Ok) {i : Nat} (hi : i ≤ 20) : (madeB i f).Sm := by
  obtain ⟨⟨f1, f2⟩, ⟨f3, f4⟩, ⟨f5, f6⟩, f7, f8⟩ := h
  have m1 := tmod100 f5
  have m2 := tmod100 f7
  refine ⟨?_, ?_, ?_, ?_, ?_, fun hr => ?_, ⟨rfl, rfl⟩⟩ <;> simp only [madeB] at *
  · omega
  · omega
  · omega
  · omega
  · cases f.round <;> simp only [cond_true, cond_false] <;> omega
  · rw [hr]; rfl
/-- A body that is greater, at the same place. -/
structure Gtr (b g : Body) : Prop where
  x : g.posX = b.posX
  y : g.posY = b.posY
  w : b.w ≤ g.w
  h : b.h ≤ g.h
  r : g.round = b.round
theorem slab_wider {fr way lo hi lo' hi' a c : Int} (hc : 0 < c) (h : Slab fr way lo hi a c) (h1 : lo' ≤ lo) (h2 : hi ≤ hi') : Slab fr way lo' hi' a c := by
  have k1 := Int.mul_le_mul_of_nonneg_left h1 (Int.le_of_lt hc)
  have k2 := Int.mul_le_mul_of_nonneg_left h2 (Int.le_of_lt hc)
  exact ⟨Int.le_trans k1 h.1, Int.le_trans h.2 k2⟩
theorem Gtr.inb {b g : Body} (h : Gtr b g) (hb : b.ok = true) (hg : g.ok = true) {p q : Vec} {a c : Int} (hc : 0 < c) (k : Inb b p q a c) : Inb g p q a c := by
  obtain ⟨e1, e2⟩ := low_eq hb
  obtain ⟨e3, e4⟩ := low_eq hg
  obtain ⟨⟨s1, s2⟩, s3⟩ := k
  have hx := h.x
  have hy := h.y
  have hw := h.w
  have hh := h.h
  rw [e1, e2] at s1 s2
  refine ⟨?_, fun hr => ?_⟩
  · rw [e3, e4]
    exact ⟨slab_wider hc s1 (by simp only; omega) (by simp only; omega), slab_wider hc s2 (by simp only; omega) (by simp only; omega)⟩
  · have hq := s3 (by rw [← h.r]; exact hr)
    rw [quad_eq] at hq ⊢
    rw [hx, hy]
    have hw1 := (Body.Ok.of hb).w.1
    have h1 : c * b.w ≤ c * g.w := Int.mul_le_mul_of_nonneg_left hw (Int.le_of_lt hc)
    have h0 : 0 ≤ c * b.w := Int.mul_nonneg (by omega) (by omega)
    have := sq_le h0 h1
    omega
theorem ordP_flat {x y : Plc} (hx : 0 ≤ x.s) (hy : y.s = 0) (h : x.le y.n y.m) : ordP x y ≤ 0 := by
  obtain ⟨n, s, m⟩ := y
  simp only at hy h
  subst hy
  exact (ordP_le hx).2 h
/-- A greater body is met, no later. -/
theorem Gtr.met {b g : Body} (h : Gtr b g) (hb : b.ok = true) (hg : g.ok = true) {p q : Vec} (hm : (whereP b p q).2 = true) : (whereP g p q).2 = true ∧ ordP (whereP g p q).1 (whereP b p q).1 ≤ 0 := by
  obtain ⟨m1, m2⟩ := of_met hb hm
  obtain ⟨a, c, hc, ha, hac, hI⟩ := m2 1 1 (by decide) (by decide) m1
  obtain ⟨k1, -⟩ := met_of hg hc ha (by omega) (h.inb hb hg hc hI)
  refine ⟨k1, ?_⟩
  have gs := (where_pos k1).2
  by_cases hs : (whereP b p q).1.s = 0
  · -- the place is a fraction
    refine ordP_flat gs hs ?_
    have wm := (where_pos hm).1
    have hle : (whereP b p q).1.le (whereP b p q).1.n (whereP b p q).1.m := (Plc.le_flat hs).2 (Int.le_refl _)
    have hn : 0 ≤ (whereP b p q).1.n := by
      unfold whereP at hm hs ⊢
      split
      · rename_i e
        rw [e] at hm
        exact (enter_yes hm).2.1
      · rename_i e
        rw [e] at hm
        simp only at hm
        split
        · exact Int.le_refl _
        · rename_i e2
          rw [e2] at hm
          simp only at hm
          split
          · rename_i e3
            rw [e3] at hm; cases hm
          · rename_i e3
            exact (apart_of e3).2.1
    obtain ⟨a', c', hc', ha', hac', hI'⟩ := m2 _ _ wm hn hle
    have hn1 : (whereP b p q).1.n ≤ (whereP b p q).1.m := by
      have := (Plc.le_flat hs).1 m1
      omega
    have ha1 : a' ≤ c' := by
      have h1 : (whereP b p q).1.n * c' ≤ (whereP b p q).1.m * c' := Int.mul_le_mul_of_nonneg_right hn1 (Int.le_of_lt hc')
      have h2 : a' * (whereP b p q).1.m ≤ c' * (whereP b p q).1.m := by
        rw [Int.mul_comm c']; exact Int.le_trans hac' h1
      exact Int.le_of_mul_le_mul_right h2 wm
    obtain ⟨-, k2⟩ := met_of hg hc' ha' ha1 (h.inb hb hg hc' hI')
    exact Plc.le_mono (where_pos k1).1 hc' wm k2 hac'
  · -- a circle's edge
    have hr : b.round = true := by
      cases hr : b.round with
      | true => rfl
      | false =>
        exfalso
        apply hs
        unfold whereP at hm ⊢
        rw [hr] at hm ⊢
        simp only [Bool.not_false, Bool.or_true] at hm ⊢
        exact (enter_yes hm).1.s
    have hrg : g.round = true := by rw [h.r, hr]
    have eg : (g.ent p q).2 = true := by
      cases e : (g.ent p q).2 with
      | true => rfl
      | false =>
        unfold whereP at k1
        rw [e] at k1
        simp only [Bool.not_false, Bool.true_or, e] at k1
        cases k1
    have eb : (b.ent p q).2 = true := by
      cases e : (b.ent p q).2 with
      | true => rfl
      | false =>
        unfold whereP at hm
        rw [e] at hm
        simp only [Bool.not_false, Bool.true_or, e] at hm
        cases hm
    have eH : segH g p q = segH b p q := by unfold segH; rw [h.x, h.y]
    have hcc : segC g p ≤ segC b p := by
      unfold segC
      rw [h.x, h.y]
      have hw1 := (Body.Ok.of hb).w.1
      have := sq_le (x := b.w) (y := g.w) (by omega) h.w
      omega
    unfold whereP at hs hm k1 ⊢
    rw [eb, hr] at hs hm ⊢
    rw [eg, hrg] at k1 ⊢
    simp only [Bool.not_true, Bool.or_self] at hs hm k1 ⊢
    split at hs
    · exact absurd rfl hs
    rename_i c1
    rw [c1] at hm
    simp only at hm
    split at hs
    · exact absurd rfl hs
    rename_i c2
    simp only
    obtain ⟨a1, a2, a3⟩ := apart_of c2
    have hCb : 0 < segC b p := by simpa using c1
    have hA : 0 < segA p q := by have := segA_nn p q; omega
    have hSb : segS b p q < segH b p q * segH b p q := by
      have := Int.mul_pos hA hCb
      unfold segS; omega
    split
    · have := ordP_neg ⟨segH b p q, segS b p q, segA p q⟩ ⟨0, 0, 1⟩
      rcases Int.lt_or_le (ordP ⟨segH b p q, segS b p q, segA p q⟩ ⟨0, 0, 1⟩) 0 with hlt | hlt
      · rw [ordP_lt a3 (by decide)] at hlt
        unfold Plc.lt at hlt
        simp only [Int.zero_mul, Int.mul_one, Int.sub_zero, Int.one_mul] at hlt
        omega
      · show ordP ⟨0, 0, 1⟩ ⟨segH b p q, segS b p q, segA p q⟩ ≤ 0
        omega
    · rename_i c3
      rw [c3] at k1
      simp only at k1
      split
      · rename_i c4
        rw [c4] at k1; cases k1
      · rename_i c4
        have hSS : segS b p q ≤ segS g p q := by
          unfold segS
          rw [eH]
          have := Int.mul_le_mul_of_nonneg_left hcc (segA_nn p q)
          omega
        simp only at hs
        rw [eH]
        have hSg : ¬ segS g p q = 0 := by omega
        rw [ordP_B (x := ⟨segH b p q, segS g p q, segA p q⟩) (y := ⟨segH b p q, segS b p q, segA p q⟩) hSg hs (Int.lt_irrefl _)]
        rw [ordB_le]
        simp only [Int.sub_self, Int.mul_zero, Int.zero_mul, Int.sub_zero]
        exact ⟨by omega, sq_nn _⟩
theorem before_val {a b : Body} {p q : Vec} (ha : a.ok = true) (hb : b.ok = true) (hp : p.In) (hq : q.In) (hs : shortB p q = true) : beforeE a b p q = match !(whereP a p q).2 || !(whereP b p q).2 with | true => (0, 6) | false => (ordP (whereP a p q).1 (whereP b p q).1, 0) := by
  unfold beforeE
  rw [wrongE_of (F := twoB a b) hp hq (fun i _ => by cases i <;> assumption) hs]
  rfl
/-- The box about a circle; a box in it. -/
theorem about_inb {b g : Body} (hb : b.ok = true) (hg : g.ok = true) (h : g.posX = b.posX ∧ g.posY = b.posY ∧ g.w = b.w ∧ g.h = b.h ∧ g.round = false) {p q : Vec} {a c : Int} (k : Inb b p q a c) : Inb g p q a c := by
  obtain ⟨e1, e2⟩ := low_eq hb
  obtain ⟨e3, e4⟩ := low_eq hg
  obtain ⟨h1, h2, h3, h4, h5⟩ := h
  refine ⟨?_, fun hr => by rw [h5] at hr; cases hr⟩
  have := k.s
  rw [e1, e2] at this
  rw [e3, e4, h1, h2, h3, h4]
  exact this
theorem in_inb {b g : Body} (hb : b.ok = true) (hg : g.ok = true) (hr : b.round = true) (h : g.posX = b.posX ∧ g.posY = b.posY ∧ g.w = g.h ∧ 2 * (g.w * g.w) ≤ b.w * b.w) {p q : Vec} {a c : Int} (hc : 0 < c) (k : Inb g p q a c) : Inb b p q a c := by
  obtain ⟨e3, e4⟩ := low_eq hg
  obtain ⟨h1, h2, h3, h4⟩ := h
  have hw1 := (Body.Ok.of hg).w.1
  have hq : quad b p q a c ≤ 0 := by
    rw [quad_eq]
    obtain ⟨⟨s1, s2⟩, s3, s4⟩ := k.s
    rw [e3] at s1 s3
    rw [e4] at s2 s4
    simp only at s1 s2 s3 s4
    rw [h1] at s1 s2
    rw [h2, ← h3] at s3 s4
    have sqb : ∀ X Y : Int, 0 ≤ Y → -Y ≤ X → X ≤ Y → X * X ≤ Y * Y := fun X Y hY g1 g2 => by
      rcases Int.le_total 0 X with hX | hX
      · exact sq_le hX g2
      · have := sq_le (x := -X) (y := Y) (by omega) (by omega)
        rwa [Int.neg_mul_neg] at this
    have hcw : 0 ≤ c * g.w := Int.mul_nonneg (by omega) (by omega)
    simp only [Int.mul_sub, Int.mul_add] at s1 s2 s3 s4
    have k1 := sqb (c * (p.x - b.posX) + a * (q.x - p.x)) (c * g.w) hcw (by simp only [Int.mul_sub] at *; omega) (by simp only [Int.mul_sub] at *; omega)
    have k2 := sqb (c * (p.y - b.posY) + a * (q.y - p.y)) (c * g.w) hcw (by simp only [Int.mul_sub] at *; omega) (by simp only [Int.mul_sub] at *; omega)
    have k3 : c * b.w * (c * b.w) = c * c * (b.w * b.w) := by grind
    have k4 : c * g.w * (c * g.w) = c * c * (g.w * g.w) := by grind
    have k5 : c * c * (2 * (g.w * g.w)) ≤ c * c * (b.w * b.w) := Int.mul_le_mul_of_nonneg_left h4 (sq_nn c)
    have k6 : c * c * (2 * (g.w * g.w)) = 2 * (c * c * (g.w * g.w)) := by grind
    omega
  exact ⟨disc_slabs hb hr hc hq, fun _ => hq⟩
theorem met_mono {b g : Body} {p q : Vec} (hb : b.ok = true) (hg : g.ok = true) (h : ∀ a c, 0 < c → Inb b p q a c → Inb g p q a c) (hm : (whereP b p q).2 = true) : (whereP g p q).2 = true := by
  obtain ⟨m1, m2⟩ := of_met hb hm
  obtain ⟨a, c, hc, ha, hac, hI⟩ := m2 1 1 (by decide) (by decide) m1
  exact (met_of hg hc ha (by omega) (h a c hc hI)).1
end Go.Proofs.YtcojfohjdibjjaaGreatDoor
