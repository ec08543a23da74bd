/- Honest clients: the plain law. -/
import Derived.Test.YtinefblphbicaaaDoorH17
namespace Go.Proofs.YtinefblphbicaaaDoor
open Go.RowKit

structure HInv (w : Watch) (now seq : Int) : Prop where
  ok : w.Ok
  cl : w.client = 5
  sq : w.seq = seq
  st : ∀ i j, i < j → j < w.times.n → w.times.g i < w.times.g j
  le : ∀ i, i < w.times.n → w.times.g i ≤ now
  c : w.counts0 = 0 ∧ w.counts1 = 0 ∧ w.counts2 = 0 ∧ w.counts3 = 0 ∧ w.counts4 = 0 ∧ w.counts5 = 0 ∧ w.counts6 = 0
  p : w.points = 0
/-- An input within the limits. -/
structure Fair (i : Input) (now : Int) : Prop where
  t : now - 16 ≤ i.tick ∧ i.tick ≤ now + 8
  m : (-64 ≤ i.moveX ∧ i.moveX ≤ 64) ∧ -64 ≤ i.moveY ∧ i.moveY ≤ 64
  a : (-8192 ≤ i.aimX ∧ i.aimX ≤ 8192) ∧ -8192 ≤ i.aimY ∧ i.aimY ≤ 8192
  s : max 0 (now - 16) ≤ i.seen ∧ (0 ≤ i.part ∧ i.part < 16) ∧ (i.seen < now ∨ i.seen = now ∧ i.part = 0)
/-- Numbers that increase strictly from one to the next. -/
theorem strict_far {g : Nat → Int} {n : Nat} (h : ∀ i j, i < j → j < n → g i < g j) : ∀ k i, i + k < n → g i + k ≤ g (i + k)
  | 0, i, _ => by simp
  | k + 1, i, hk => by
    have h1 := strict_far h k i (by omega)
    have h2 := h (i + k) (i + (k + 1)) (by omega) hk
    omega
theorem fair_flags {i : Input} {now : Int} (h : Fair i now) : flagsOf i now 3 = fl0 ∧ corr i now 3 = i := by
  have hm : bMove i = false := by
    unfold bMove beyond
    have := h.m
    simp only [Bool.or_eq_false_iff, decide_eq_false_iff_not]
    omega
  have ha : bAim i = false := by
    unfold bAim beyond
    have := h.a
    simp only [Bool.or_eq_false_iff, decide_eq_false_iff_not]
    omega
  have hs : shotOk i now = true := by
    unfold shotOk
    obtain ⟨s1, ⟨s2, s3⟩, s4⟩ := h.s
    simp only [Bool.or_eq_true, Bool.and_eq_true, decide_eq_true_eq]
    exact .inr ⟨⟨⟨s1, s2⟩, s3⟩, s4⟩
  have e1 : corr1 i = i := by unfold corr1; rw [hm]
  have e2 : corr2 i = i := by unfold corr2; rw [ha]; exact e1
  have e3 : corr3 i now = i := by unfold corr3; rw [hs]; exact e2
  have f1 : fl1 i = fl0 := by unfold fl1; rw [hm]
  have f2 : fl2 i = fl0 := by unfold fl2; rw [ha]; exact f1
  have f3 : fl3 i now = fl0 := by unfold fl3; rw [hs]; exact f2
  exact ⟨f3, e3⟩
theorem honest_step {w : Watch} {was now seq : Int} {i : Input} (h : HInv w was seq) (hn : was < now) (hn2 : now ≤ 1000000) (hn0 : 0 ≤ now) (hc : i.client = 5) (hs : seq < i.seq) (hf : Fair i now) :
    (check w now i).e = 0 ∧ (check w now i).ok = true ∧ (check w now i).l.n = 0 ∧ (check w now i).i = i ∧ (check w now i).w.suspect = false ∧ HInv (check w now i).w now i.seq := by
  have ht : isTick now = true := isTick_of ⟨hn0, by omega⟩
  have hle : ∀ j, j < w.times.n → w.times.g j ≤ now := fun j hj => by have := h.le j hj; omega
  have hg := good_of h.ok (by rw [hc, h.cl] : i.client = w.client) ht hle
  have fn : (w.fresh now).times.n = w.times.n - cntT w.times.g (now - 32) w.times.n := rfl
  have fg : ∀ j, (w.fresh now).times.g j = w.times.g (cntT w.times.g (now - 32) w.times.n + j) := fun j => rfl
  have hcn := cnt_le w.times.g (now - 32) w.times.n
  have h40 : (w.fresh now).times.n < 40 := by
    rw [fn]
    by_cases e : w.times.n - cntT w.times.g (now - 32) w.times.n < 40
    · exact e
    · exfalso
      have h1 := strict_far h.st (w.times.n - 1 - cntT w.times.g (now - 32) w.times.n) (cntT w.times.g (now - 32) w.times.n) (by omega)
      have h2 := kept_new h.ok.s (c := now - 32) (Nat.le_refl _) (by omega)
      rw [show cntT w.times.g (now - 32) w.times.n + (w.times.n - 1 - cntT w.times.g (now - 32) w.times.n) = w.times.n - 1 by omega] at h1
      have h3 := h.le (w.times.n - 1) (by omega)
      omega
  have hr : refusal w now i = 0 := by
    unfold refusal
    have := hf.t
    rw [if_neg (by rw [h.sq]; omega), if_neg (by omega), if_neg (by omega)]
  obtain ⟨f1, f2⟩ := fair_flags hf
  have hT := h.ok.took (i := i) ht hle h40
  have e : check w now i = ⟨w.took now i, i, fl0, true, 0⟩ := by
    rw [check_taken hg hr, f1, f2]
    rfl
  rw [e]
  refine ⟨rfl, rfl, rfl, rfl, ?_, hT, h.cl, rfl, fun a b hab hb => ?_, fun a ha => ?_, h.c, h.p⟩
  · unfold Watch.suspect
    rw [decide_eq_false (by show ¬ 100 ≤ w.points; rw [h.p]; decide), Bool.and_false]
  · have hb : b < (w.fresh now).times.n + 1 := hb
    show ((w.fresh now).times.push now).g a < ((w.fresh now).times.push now).g b
    rw [push_g, push_g, if_neg (by omega)]
    split
    · rw [fg]
      have := h.le (cntT w.times.g (now - 32) w.times.n + a) (by omega)
      omega
    · rw [fg, fg]
      exact h.st _ _ (by omega) (by omega)
  · have ha : a < (w.fresh now).times.n + 1 := ha
    show ((w.fresh now).times.push now).g a ≤ now
    rw [push_g]
    split
    · exact Int.le_refl _
    · rw [fg]
      exact hle _ (by omega)
end Go.Proofs.YtinefblphbicaaaDoor
