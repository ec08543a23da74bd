/- CastPoints: the plain laws. -/
import Derived.Test.YtcbpajkgmpibgaaC20
namespace Go.Proofs.Ytcbpajkgmpibgaa
open Go.RowKit

/-- All numbers that the statements' bodies have. -/
structure Body.Sm (b : Body) : Prop where
  id : 0 ≤ b.iD ∧ b.iD ≤ 1000
  x : -2000 ≤ b.posX ∧ b.posX ≤ 2000
  y : -2000 ≤ b.posY ∧ b.posY ≤ 2000
  w : 1 ≤ b.w ∧ b.w ≤ 1000
  h : 1 ≤ b.h ∧ b.h ≤ 1000
  r : b.round = true → b.w = b.h
  v : b.velX = 0 ∧ b.velY = 0
theorem Body.Sm.ok {b : Body} (h : b.Sm) : b.ok = true := by
  have h1 := h.id
  have h2 := h.x
  have h3 := h.y
  have h4 := h.w
  have h5 := h.h
  exact Body.ok_of ⟨by omega, by omega, by omega, by omega, by omega, h.r⟩ h.v
theorem madeB_Sm {f : Form} (h : f.Ok) {i : Nat} (hi : i ≤ 20) : (madeB i f).Sm := by
  obtain ⟨⟨f1, f2⟩, ⟨f3, f4⟩, ⟨f5, f6⟩, f7, f8⟩ := h
  have m1 := tmod100 f5
  have m2 := tmod100 f7
  refine ⟨?_, ?_, ?_, ?_, ?_, fun hr => ?_, ⟨rfl, rfl⟩⟩ <;> simp only [madeB] at *
  · omega
  · omega
  · omega
  · omega
  · cases f.round <;> simp only [cond_true, cond_false] <;> omega
  · rw [hr]; rfl
/-- A body that is greater, at the same place. -/
structure Gtr (b g : Body) : Prop where
  x : g.posX = b.posX
  y : g.posY = b.posY
  w : b.w ≤ g.w
  h : b.h ≤ g.h
  r : g.round = b.round
theorem slab_wider {fr way lo hi lo' hi' a c : Int} (hc : 0 < c) (h : Slab fr way lo hi a c) (h1 : lo' ≤ lo) (h2 : hi ≤ hi') : Slab fr way lo' hi' a c := by
  have k1 := Int.mul_le_mul_of_nonneg_left h1 (Int.le_of_lt hc)
  have k2 := Int.mul_le_mul_of_nonneg_left h2 (Int.le_of_lt hc)
  exact ⟨Int.le_trans k1 h.1, Int.le_trans h.2 k2⟩
theorem Gtr.inb {b g : Body} (h : Gtr b g) (hb : b.ok = true) (hg : g.ok = true) {p q : Vec} {a c : Int} (hc : 0 < c) (k : Inb b p q a c) : Inb g p q a c := by
  obtain ⟨e1, e2⟩ := low_eq hb
  obtain ⟨e3, e4⟩ := low_eq hg
  obtain ⟨⟨s1, s2⟩, s3⟩ := k
  have hx := h.x
  have hy := h.y
  have hw := h.w
  have hh := h.h
  rw [e1, e2] at s1 s2
  refine ⟨?_, fun hr => ?_⟩
  · rw [e3, e4]
    exact ⟨slab_wider hc s1 (by simp only; omega) (by simp only; omega), slab_wider hc s2 (by simp only; omega) (by simp only; omega)⟩
  · have hq := s3 (by rw [← h.r]; exact hr)
    rw [quad_eq] at hq ⊢
    rw [hx, hy]
    have hw1 := (Body.Ok.of hb).w.1
    have h1 : c * b.w ≤ c * g.w := Int.mul_le_mul_of_nonneg_left hw (Int.le_of_lt hc)
    have h0 : 0 ≤ c * b.w := Int.mul_nonneg (by omega) (by omega)
    have := sq_le h0 h1
    omega
theorem ordP_flat {x y : Plc} (hx : 0 ≤ x.s) (hy : y.s = 0) (h : x.le y.n y.m) : ordP x y ≤ 0 := by
  obtain ⟨n, s, m⟩ := y
  simp only at hy h
  subst hy
  exact (ordP_le hx).2 h
/-- A greater body is met, no later. -/
theorem Gtr.met {b g : Body} (h : Gtr b g) (hb : b.ok = true) (hg : g.ok = true) {p q : Vec} (hm : (whereP b p q).2 = true) : (whereP g p q).2 = true ∧ ordP (whereP g p q).1 (whereP b p q).1 ≤ 0 := by
  obtain ⟨m1, m2⟩ := of_met hb hm
  obtain ⟨a, c, hc, ha, hac, hI⟩ := m2 1 1 (by decide) (by decide) m1
  obtain ⟨k1, -⟩ := met_of hg hc ha (by omega) (h.inb hb hg hc hI)
  refine ⟨k1, ?_⟩
  have gs := (where_pos k1).2
  by_cases hs : (whereP b p q).1.s = 0
  · -- the place is a fraction
    refine ordP_flat gs hs ?_
    have wm := (where_pos hm).1
    have hle : (whereP b p q).1.le (whereP b p q).1.n (whereP b p q).1.m := (Plc.le_flat hs).2 (Int.le_refl _)
    have hn : 0 ≤ (whereP b p q).1.n := by
      unfold whereP at hm hs ⊢
      split
      · rename_i e
        rw [e] at hm
        exact (enter_yes hm).2.1
      · rename_i e
        rw [e] at hm
        simp only at hm
        split
        · exact Int.le_refl _
        · rename_i e2
          rw [e2] at hm
          simp only at hm
          split
          · rename_i e3
            rw [e3] at hm; cases hm
          · rename_i e3
            exact (apart_of e3).2.1
    obtain ⟨a', c', hc', ha', hac', hI'⟩ := m2 _ _ wm hn hle
    have hn1 : (whereP b p q).1.n ≤ (whereP b p q).1.m := by
      have := (Plc.le_flat hs).1 m1
      omega
    have ha1 : a' ≤ c' := by
      have h1 : (whereP b p q).1.n * c' ≤ (whereP b p q).1.m * c' := Int.mul_le_mul_of_nonneg_right hn1 (Int.le_of_lt hc')
      have h2 : a' * (whereP b p q).1.m ≤ c' * (whereP b p q).1.m := by
        rw [Int.mul_comm c']; exact Int.le_trans hac' h1
      exact Int.le_of_mul_le_mul_right h2 wm
    obtain ⟨-, k2⟩ := met_of hg hc' ha' ha1 (h.inb hb hg hc' hI')
    exact Plc.le_mono (where_pos k1).1 hc' wm k2 hac'
  · -- a circle's edge
    have hr : b.round = true := by
      cases hr : b.round with
      | true => rfl
      | false =>
        exfalso
        apply hs
        unfold whereP at hm ⊢
        rw [hr] at hm ⊢
        simp only [Bool.not_false, Bool.or_true] at hm ⊢
        exact (enter_yes hm).1.s
    have hrg : g.round = true := by rw [h.r, hr]
    have eg : (g.ent p q).2 = true := by
      cases e : (g.ent p q).2 with
      | true => rfl
      | false =>
        unfold whereP at k1
        rw [e] at k1
        simp only [Bool.not_false, Bool.true_or, e] at k1
        cases k1
    have eb : (b.ent p q).2 = true := by
      cases e : (b.ent p q).2 with
      | true => rfl
      | false =>
        unfold whereP at hm
        rw [e] at hm
        simp only [Bool.not_false, Bool.true_or, e] at hm
        cases hm
    have eH : segH g p q = segH b p q := by unfold segH; rw [h.x, h.y]
    have hcc : segC g p ≤ segC b p := by
      unfold segC
      rw [h.x, h.y]
      have hw1 := (Body.Ok.of hb).w.1
      have := sq_le (x := b.w) (y := g.w) (by omega) h.w
      omega
    unfold whereP at hs hm k1 ⊢
    rw [eb, hr] at hs hm ⊢
    rw [eg, hrg] at k1 ⊢
    simp only [Bool.not_true, Bool.or_self] at hs hm k1 ⊢
    split at hs
    · exact absurd rfl hs
    rename_i c1
    rw [c1] at hm
    simp only at hm
    split at hs
    · exact absurd rfl hs
    rename_i c2
    simp only
    obtain ⟨a1, a2, a3⟩ := apart_of c2
    have hCb : 0 < segC b p := by simpa using c1
    have hA : 0 < segA p q := by have := segA_nn p q; omega
    have hSb : segS b p q < segH b p q * segH b p q := by
      have := Int.mul_pos hA hCb
      unfold segS; omega
    split
    · have := ordP_neg ⟨segH b p q, segS b p q, segA p q⟩ ⟨0, 0, 1⟩
      rcases Int.lt_or_le (ordP ⟨segH b p q, segS b p q, segA p q⟩ ⟨0, 0, 1⟩) 0 with hlt | hlt
      · rw [ordP_lt a3 (by decide)] at hlt
        unfold Plc.lt at hlt
        simp only [Int.zero_mul, Int.mul_one, Int.sub_zero, Int.one_mul] at hlt
        omega
      · show ordP ⟨0, 0, 1⟩ ⟨segH b p q, segS b p q, segA p q⟩ ≤ 0
        omega
    · rename_i c3
      rw [c3] at k1
      simp only at k1
      split
      · rename_i c4
        rw [c4] at k1; cases k1
      · rename_i c4
        have hSS : segS b p q ≤ segS g p q := by
          unfold segS
          rw [eH]
          have := Int.mul_le_mul_of_nonneg_left hcc (segA_nn p q)
          omega
        simp only at hs
        rw [eH]
        have hSg : ¬ segS g p q = 0 := by omega
        rw [ordP_B (x := ⟨segH b p q, segS g p q, segA p q⟩) (y := ⟨segH b p q, segS b p q, segA p q⟩) hSg hs (Int.lt_irrefl _)]
        rw [ordB_le]
        simp only [Int.sub_self, Int.mul_zero, Int.zero_mul, Int.sub_zero]
        exact ⟨by omega, sq_nn _⟩
theorem before_val {a b : Body} {p q : Vec} (ha : a.ok = true) (hb : b.ok = true) (hp : p.In) (hq : q.In) (hs : shortB p q = true) : beforeE a b p q = match !(whereP a p q).2 || !(whereP b p q).2 with | true => (0, 6) | false => (ordP (whereP a p q).1 (whereP b p q).1, 0) := by
  unfold beforeE
  rw [wrongE_of (F := twoB a b) hp hq (fun i _ => by cases i <;> assumption) hs]
  rfl
/-- The box about a circle; a box in it. -/
theorem about_inb {b g : Body} (hb : b.ok = true) (hg : g.ok = true) (h : g.posX = b.posX ∧ g.posY = b.posY ∧ g.w = b.w ∧ g.h = b.h ∧ g.round = false) {p q : Vec} {a c : Int} (k : Inb b p q a c) : Inb g p q a c := by
  obtain ⟨e1, e2⟩ := low_eq hb
  obtain ⟨e3, e4⟩ := low_eq hg
  obtain ⟨h1, h2, h3, h4, h5⟩ := h
  refine ⟨?_, fun hr => by rw [h5] at hr; cases hr⟩
  have := k.s
  rw [e1, e2] at this
  rw [e3, e4, h1, h2, h3, h4]
  exact this
theorem in_inb {b g : Body} (hb : b.ok = true) (hg : g.ok = true) (hr : b.round = true) (h : g.posX = b.posX ∧ g.posY = b.posY ∧ g.w = g.h ∧ 2 * (g.w * g.w) ≤ b.w * b.w) {p q : Vec} {a c : Int} (hc : 0 < c) (k : Inb g p q a c) : Inb b p q a c := by
  obtain ⟨e3, e4⟩ := low_eq hg
  obtain ⟨h1, h2, h3, h4⟩ := h
  have hw1 := (Body.Ok.of hg).w.1
  have hq : quad b p q a c ≤ 0 := by
    rw [quad_eq]
    obtain ⟨⟨s1, s2⟩, s3, s4⟩ := k.s
    rw [e3] at s1 s3
    rw [e4] at s2 s4
    simp only at s1 s2 s3 s4
    rw [h1] at s1 s2
    rw [h2, ← h3] at s3 s4
    have sqb : ∀ X Y : Int, 0 ≤ Y → -Y ≤ X → X ≤ Y → X * X ≤ Y * Y := fun X Y hY g1 g2 => by
      rcases Int.le_total 0 X with hX | hX
      · exact sq_le hX g2
      · have := sq_le (x := -X) (y := Y) (by omega) (by omega)
        rwa [Int.neg_mul_neg] at this
    have hcw : 0 ≤ c * g.w := Int.mul_nonneg (by omega) (by omega)
    simp only [Int.mul_sub, Int.mul_add] at s1 s2 s3 s4
    have k1 := sqb (c * (p.x - b.posX) + a * (q.x - p.x)) (c * g.w) hcw (by simp only [Int.mul_sub] at *; omega) (by simp only [Int.mul_sub] at *; omega)
    have k2 := sqb (c * (p.y - b.posY) + a * (q.y - p.y)) (c * g.w) hcw (by simp only [Int.mul_sub] at *; omega) (by simp only [Int.mul_sub] at *; omega)
    have k3 : c * b.w * (c * b.w) = c * c * (b.w * b.w) := by grind
    have k4 : c * g.w * (c * g.w) = c * c * (g.w * g.w) := by grind
    have k5 : c * c * (2 * (g.w * g.w)) ≤ c * c * (b.w * b.w) := Int.mul_le_mul_of_nonneg_left h4 (sq_nn c)
    have k6 : c * c * (2 * (g.w * g.w)) = 2 * (c * c * (g.w * g.w)) := by grind
    omega
  exact ⟨disc_slabs hb hr hc hq, fun _ => hq⟩
theorem met_mono {b g : Body} {p q : Vec} (hb : b.ok = true) (hg : g.ok = true) (h : ∀ a c, 0 < c → Inb b p q a c → Inb g p q a c) (hm : (whereP b p q).2 = true) : (whereP g p q).2 = true := by
  obtain ⟨m1, m2⟩ := of_met hb hm
  obtain ⟨a, c, hc, ha, hac, hI⟩ := m2 1 1 (by decide) (by decide) m1
  exact (met_of hg hc ha (by omega) (h a c hc hI)).1
end Go.Proofs.Ytcbpajkgmpibgaa
