/- DefenceCalms: the plain law. -/
import Derived.Test.YtinefblphbicaaaDoorH17
namespace Go.Proofs.YtinefblphbicaaaDoor
open Go.RowKit

structure CInv (w : Watch) (k : Nat) : Prop where
  ok : w.Ok
  cl : w.client = 1
  si : w.since = 9
  tn : w.times.n = 0
  lim : w.counts0 ≤ k ∧ w.counts1 ≤ k ∧ w.counts2 ≤ k ∧ w.counts3 ≤ k ∧ w.counts4 ≤ k ∧ w.counts5 ≤ k ∧ w.counts6 ≤ k
  p : w.points = 2 * w.counts1 + 5 * w.counts2 + 10 * w.counts3 + 10 * w.counts4 + 2 * w.counts5 + 20 * w.counts6
  pk : w.points ≤ 20 * k
theorem mark_good {w : Watch} {f : Int} (h : w.Ok) (hf : 1 ≤ f ∧ f ≤ 7) : mark w f = (w.mark1 f, 0) := by
  have : markBad w f = false := by
    unfold markBad
    rw [h.to, decide_eq_false (by omega), decide_eq_false (by omega)]
    rfl
  unfold mark
  rw [this]
theorem bump_lt {n : Int} {k : Nat} (h : n ≤ k) (hk : k < 1048576) : bump n = n + 1 := by unfold bump; rw [if_pos (by omega)]
theorem calm_step {w : Watch} {k : Nat} {f : Int} (h : CInv w k) (hk : k < 100) (hf : f = 1 ∨ f = 2 ∨ f = 3 ∨ f = 4 ∨ f = 5 ∨ f = 6 ∨ f = 7) : CInv (w.mark1 f) (k + 1) := by
  have hO := h.ok.mark1 f
  obtain ⟨l0, l1, l2, l3, l4, l5, l6⟩ := h.lim
  have hp := h.p
  have hpk := h.pk
  have b0 := bump_lt l0 (by omega)
  have b1 := bump_lt l1 (by omega)
  have b2 := bump_lt l2 (by omega)
  have b3 := bump_lt l3 (by omega)
  have b4 := bump_lt l4 (by omega)
  have b5 := bump_lt l5 (by omega)
  have b6 := bump_lt l6 (by omega)
  refine ⟨hO, h.cl, h.si, h.tn, ?_, ?_, ?_⟩
  all_goals
    obtain rfl | rfl | rfl | rfl | rfl | rfl | rfl := hf
    all_goals
      simp only [Watch.mark1, b0, b1, b2, b3, b4, b5, b6, costOf]
      simp
      omega
theorem calm_good {w : Watch} {now : Int} (h : w.Ok) (hs : w.since ≤ now) (ht : isTick now = true) : calm w now = ({ w with points := max 0 (w.points - (now - w.since) / 32), since := w.since + (now - w.since) / 32 * 32 }, 0) := by
  have hb : calmBad w now = false := by
    unfold calmBad
    rw [h.to, ht, decide_eq_false (by omega)]
    rfl
  have hq : calmN w now = (now - w.since) / 32 := Int.tdiv_eq_ediv_of_nonneg (by omega)
  unfold calm
  rw [hb, hq]
theorem calm_ok {w : Watch} {now : Int} (h : w.Ok) (hs : w.since ≤ now) (ht : isTick now = true) : (calm w now).1.Ok := by
  rw [calm_good h hs ht]
  obtain ⟨c0, c1, c2, c3, c4, c5, c6, p0, p1⟩ := h.f
  have h1 := tickOf ht
  have h2 := tickOf h.t
  refine ⟨h.c0, h.c1, h.n, h.s, ⟨c0, c1, c2, c3, c4, c5, c6, by show 0 ≤ max 0 _; omega, by show max 0 _ ≤ _; omega⟩, isTick_of ⟨by show 0 ≤ w.since + _; omega, by show w.since + _ ≤ _; omega⟩, h.r⟩
/-- Calming in two steps is calming in one. -/
theorem calm_law {w : Watch} {k : Nat} {a b : Int} (h : CInv w k) (ha : 0 ≤ a ∧ a ≤ 65535) (hb : 0 ≤ b ∧ b ≤ 65535) :
    (calm w (9 + a)).2 = 0 ∧ (calm (calm w (9 + a)).1 (9 + a + b)).2 = 0 ∧ (calm w (9 + a + b)).2 = 0 ∧ (calm (calm w (9 + a)).1 (9 + a + b)).1.same (calm w (9 + a + b)).1 = true ∧
    (calm w (9 + a + b)).1.points = max 0 (w.points - (a + b) / 32) ∧ (calm w (9 + a)).1.points = max 0 (w.points - a / 32) ∧ (calm w (9 + a)).1.times.n = 0 ∧ (calm (calm w (9 + a)).1 (9 + a + b)).1.times.n = 0 ∧ (calm w (9 + a + b)).1.times.n = 0 := by
  have hsi := h.si
  have t1 : isTick (9 + a) = true := isTick_of ⟨by omega, by omega⟩
  have t2 : isTick (9 + a + b) = true := isTick_of ⟨by omega, by omega⟩
  have hx := calm_ok h.ok (by omega) t1
  have e1 := calm_good h.ok (by omega) t1
  have e3 := calm_good h.ok (by omega) t2
  have hp0 := h.ok.f.p0
  have hs2 : (calm w (9 + a)).1.since = 9 + a / 32 * 32 := by
    rw [e1]
    show w.since + (9 + a - w.since) / 32 * 32 = _
    rw [hsi, show 9 + a - 9 = a by omega]
  have hp2 : (calm w (9 + a)).1.points = max 0 (w.points - a / 32) := by
    rw [e1]
    show max 0 (w.points - (9 + a - w.since) / 32) = _
    rw [hsi, show 9 + a - 9 = a by omega]
  have e2 := calm_good hx (now := 9 + a + b) (by omega) t2
  have hx0 : (calm w (9 + a)).1.times = w.times ∧ (calm w (9 + a)).1.client = w.client ∧ (calm w (9 + a)).1.seq = w.seq ∧ (calm w (9 + a)).1.counts0 = w.counts0 ∧ (calm w (9 + a)).1.counts1 = w.counts1 ∧ (calm w (9 + a)).1.counts2 = w.counts2 ∧ (calm w (9 + a)).1.counts3 = w.counts3 ∧ (calm w (9 + a)).1.counts4 = w.counts4 ∧ (calm w (9 + a)).1.counts5 = w.counts5 ∧ (calm w (9 + a)).1.counts6 = w.counts6 := by
    rw [e1]; simp
  generalize hX : (calm w (9 + a)).1 = x at *
  obtain ⟨x1, x2, x3, x4, x5, x6, x7, x8, x9, x10⟩ := hx0
  refine ⟨by rw [e1], by rw [e2], by rw [e3], ?_, ?_, hp2, by rw [x1]; exact h.tn, by rw [e2]; exact (by rw [x1]; exact h.tn : x.times.n = 0), by rw [e3]; exact h.tn⟩
  · rw [e2, e3]
    unfold Watch.same
    have ht : x.times.same w.times = true := same_yes (by rw [x1]) fun i hi => by rw [x1, h.tn] at hi; omega
    have hpp : max 0 (x.points - (9 + a + b - x.since) / 32) = max 0 (w.points - (9 + a + b - w.since) / 32) := by
      rw [hs2, hp2, hsi]; omega
    have hss : x.since + (9 + a + b - x.since) / 32 * 32 = w.since + (9 + a + b - w.since) / 32 * 32 := by
      rw [hs2, hsi]; omega
    simp only [x2, x3, x4, x5, x6, x7, x8, x9, x10, ht, hpp, hss, decide_true, Bool.and_true]
  · rw [e3]
    show max 0 (w.points - (9 + a + b - w.since) / 32) = _
    rw [hsi, show 9 + a + b - 9 = a + b by omega]
end Go.Proofs.YtinefblphbicaaaDoor
