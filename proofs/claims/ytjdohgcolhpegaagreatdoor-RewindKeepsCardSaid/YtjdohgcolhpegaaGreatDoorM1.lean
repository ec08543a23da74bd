/- store: Fits. -/
import Derived.Test.YtjdohgcolhpegaaGreatDoorM0
namespace Go.Proofs.YtjdohgcolhpegaaGreatDoor
open Go.RowKit

theorem no_tf {p : Prop} (h : false = true) : p := by cases h
theorem no_ft {p : Prop} (h : true = false) : p := by cases h
set_option maxHeartbeats 2000000 in
set_option maxRecDepth 8000 in
theorem Fits_walk : ∀ a, conj ((fun a => [0 ≤ a.kind ∧ a.kind ≤ 255]) a) → evFn (C := cx) [] [] 0 ⟨[], [], [], 5⟩ Tryz.f51 ((rds1 rdComp).enc a) fun v H _ => resOut ((fun a => .v (.bool a.fits)) a) H v := by
  intro c hk
  replace hk : 0 ≤ c.kind ∧ c.kind ≤ 255 := hk
  obtain ⟨kind, v0, v1, v2, v3⟩ := c
  replace hk : 0 ≤ kind ∧ kind ≤ 255 := hk
  by_cases hb : kind < 1 ∨ 10 < kind
  · refine And.intro (fun _ => ?_) (fun hc => ?_)
    · refine Eq.trans (fits_no (c := ⟨kind, v0, v1, v2, v3⟩) fun h => ?_) rfl
      have h1 : 1 ≤ kind := h.1
      have h2 : kind ≤ 10 := h.2.1
      omega
    · have hc : (decide (kind < 1) || decide (10 < kind)) = false := hc
      simp only [Bool.or_eq_false_iff, decide_eq_false_iff_not] at hc
      omega
  have hk : kind = 1 ∨ kind = 2 ∨ kind = 3 ∨ kind = 4 ∨ kind = 5 ∨ kind = 6 ∨ kind = 7 ∨ kind = 8 ∨ kind = 9 ∨ kind = 10 := by omega
  clear hb
  rcases hk with rfl | rfl | rfl | rfl | rfl | rfl | rfl | rfl | rfl | rfl
  · refine And.intro (fun hc => no_tf hc) (fun _ => ?_)
    refine And.intro (fun h0 => ?_) (fun h0 => ?_)
    · refine Eq.trans (fits_no (c := ⟨1, v0, v1, v2, v3⟩) fun h => ?_) rfl
      have h0 : (decide (v0 < -1048576) || decide (1048576 < v0)) = true := h0
      simp only [Bool.or_eq_true, decide_eq_true_eq] at h0
      have h : -1048576 ≤ v0 ∧ v0 ≤ 1048576 ∧ -1048576 ≤ v1 ∧ v1 ≤ 1048576 ∧ 0 ≤ v2 ∧ v2 ≤ 0 ∧ 0 ≤ v3 ∧ v3 ≤ 0 := h.2.2.1 rfl
      omega
    refine And.intro (fun h1 => ?_) (fun h1 => ?_)
    · refine Eq.trans (fits_no (c := ⟨1, v0, v1, v2, v3⟩) fun h => ?_) rfl
      have h1 : (decide (v1 < -1048576) || decide (1048576 < v1)) = true := h1
      simp only [Bool.or_eq_true, decide_eq_true_eq] at h1
      have h : -1048576 ≤ v0 ∧ v0 ≤ 1048576 ∧ -1048576 ≤ v1 ∧ v1 ≤ 1048576 ∧ 0 ≤ v2 ∧ v2 ≤ 0 ∧ 0 ≤ v3 ∧ v3 ≤ 0 := h.2.2.1 rfl
      omega
    refine And.intro (fun h2 => ?_) (fun h2 => ?_)
    · refine Eq.trans (fits_no (c := ⟨1, v0, v1, v2, v3⟩) fun h => ?_) rfl
      have h2 : (decide (v2 < 0) || decide (0 < v2)) = true := h2
      simp only [Bool.or_eq_true, decide_eq_true_eq] at h2
      have h : -1048576 ≤ v0 ∧ v0 ≤ 1048576 ∧ -1048576 ≤ v1 ∧ v1 ≤ 1048576 ∧ 0 ≤ v2 ∧ v2 ≤ 0 ∧ 0 ≤ v3 ∧ v3 ≤ 0 := h.2.2.1 rfl
      omega
    refine And.intro (fun h3 => ?_) (fun h3 => ?_)
    · refine Eq.trans (fits_no (c := ⟨1, v0, v1, v2, v3⟩) fun h => ?_) rfl
      have h3 : (decide (v3 < 0) || decide (0 < v3)) = true := h3
      simp only [Bool.or_eq_true, decide_eq_true_eq] at h3
      have h : -1048576 ≤ v0 ∧ v0 ≤ 1048576 ∧ -1048576 ≤ v1 ∧ v1 ≤ 1048576 ∧ 0 ≤ v2 ∧ v2 ≤ 0 ∧ 0 ≤ v3 ∧ v3 ≤ 0 := h.2.2.1 rfl
      omega
    refine And.intro (fun hq => ?_) (fun hq => ?_)
    · exact no_tf hq
    refine And.intro (fun hq => ?_) (fun hq => ?_)
    · exact no_tf hq
    · skip
      have h0 : (decide (v0 < -1048576) || decide (1048576 < v0)) = false := h0
      have h1 : (decide (v1 < -1048576) || decide (1048576 < v1)) = false := h1
      have h2 : (decide (v2 < 0) || decide (0 < v2)) = false := h2
      have h3 : (decide (v3 < 0) || decide (0 < v3)) = false := h3
      simp only [Bool.or_eq_false_iff, decide_eq_false_iff_not] at h0 h1 h2 h3
      have hF : Comp.Fits ⟨1, v0, v1, v2, v3⟩ := by
        refine ⟨(by decide : (1 : Int) ≤ 1), (by decide : (1 : Int) ≤ 10), fun _ => by (dsimp only; omega), fun hq => absurd hq (by decide : ¬ (1 : Int) = 2), fun hq => absurd hq (by decide : ¬ (1 : Int) = 3), fun hq => absurd hq (by decide : ¬ (1 : Int) = 4), fun hq => absurd hq (by decide : ¬ (1 : Int) = 5), fun hq => absurd hq (by decide : ¬ (1 : Int) = 6), fun hq => absurd hq (by decide : ¬ (1 : Int) = 7), fun hq => absurd hq (by decide : ¬ (1 : Int) = 8), fun hq => absurd hq (by decide : ¬ (1 : Int) = 9), fun hq => absurd hq (by decide : ¬ (1 : Int) = 10), fun hq => absurd hq (by decide : ¬ (1 : Int) = 3), fun hq => absurd hq (by decide : ¬ (1 : Int) = 5)⟩
      refine Eq.trans (fits_yes hF) rfl
  · refine And.intro (fun hc => no_tf hc) (fun _ => ?_)
    refine And.intro (fun h0 => ?_) (fun h0 => ?_)
    · refine Eq.trans (fits_no (c := ⟨2, v0, v1, v2, v3⟩) fun h => ?_) rfl
      have h0 : (decide (v0 < -4096) || decide (4096 < v0)) = true := h0
      simp only [Bool.or_eq_true, decide_eq_true_eq] at h0
      have h : -4096 ≤ v0 ∧ v0 ≤ 4096 ∧ -4096 ≤ v1 ∧ v1 ≤ 4096 ∧ 0 ≤ v2 ∧ v2 ≤ 0 ∧ 0 ≤ v3 ∧ v3 ≤ 0 := h.2.2.2.1 rfl
      omega
    refine And.intro (fun h1 => ?_) (fun h1 => ?_)
    · refine Eq.trans (fits_no (c := ⟨2, v0, v1, v2, v3⟩) fun h => ?_) rfl
      have h1 : (decide (v1 < -4096) || decide (4096 < v1)) = true := h1
      simp only [Bool.or_eq_true, decide_eq_true_eq] at h1
      have h : -4096 ≤ v0 ∧ v0 ≤ 4096 ∧ -4096 ≤ v1 ∧ v1 ≤ 4096 ∧ 0 ≤ v2 ∧ v2 ≤ 0 ∧ 0 ≤ v3 ∧ v3 ≤ 0 := h.2.2.2.1 rfl
      omega
    refine And.intro (fun h2 => ?_) (fun h2 => ?_)
    · refine Eq.trans (fits_no (c := ⟨2, v0, v1, v2, v3⟩) fun h => ?_) rfl
      have h2 : (decide (v2 < 0) || decide (0 < v2)) = true := h2
      simp only [Bool.or_eq_true, decide_eq_true_eq] at h2
      have h : -4096 ≤ v0 ∧ v0 ≤ 4096 ∧ -4096 ≤ v1 ∧ v1 ≤ 4096 ∧ 0 ≤ v2 ∧ v2 ≤ 0 ∧ 0 ≤ v3 ∧ v3 ≤ 0 := h.2.2.2.1 rfl
      omega
    refine And.intro (fun h3 => ?_) (fun h3 => ?_)
    · refine Eq.trans (fits_no (c := ⟨2, v0, v1, v2, v3⟩) fun h => ?_) rfl
      have h3 : (decide (v3 < 0) || decide (0 < v3)) = true := h3
      simp only [Bool.or_eq_true, decide_eq_true_eq] at h3
      have h : -4096 ≤ v0 ∧ v0 ≤ 4096 ∧ -4096 ≤ v1 ∧ v1 ≤ 4096 ∧ 0 ≤ v2 ∧ v2 ≤ 0 ∧ 0 ≤ v3 ∧ v3 ≤ 0 := h.2.2.2.1 rfl
      omega
    refine And.intro (fun hq => ?_) (fun hq => ?_)
    · exact no_tf hq
    refine And.intro (fun hq => ?_) (fun hq => ?_)
    · exact no_tf hq
    · skip
      have h0 : (decide (v0 < -4096) || decide (4096 < v0)) = false := h0
      have h1 : (decide (v1 < -4096) || decide (4096 < v1)) = false := h1
      have h2 : (decide (v2 < 0) || decide (0 < v2)) = false := h2
      have h3 : (decide (v3 < 0) || decide (0 < v3)) = false := h3
      simp only [Bool.or_eq_false_iff, decide_eq_false_iff_not] at h0 h1 h2 h3
      have hF : Comp.Fits ⟨2, v0, v1, v2, v3⟩ := by
        refine ⟨(by decide : (1 : Int) ≤ 2), (by decide : (2 : Int) ≤ 10), fun hq => absurd hq (by decide : ¬ (2 : Int) = 1), fun _ => by (dsimp only; omega), fun hq => absurd hq (by decide : ¬ (2 : Int) = 3), fun hq => absurd hq (by decide : ¬ (2 : Int) = 4), fun hq => absurd hq (by decide : ¬ (2 : Int) = 5), fun hq => absurd hq (by decide : ¬ (2 : Int) = 6), fun hq => absurd hq (by decide : ¬ (2 : Int) = 7), fun hq => absurd hq (by decide : ¬ (2 : Int) = 8), fun hq => absurd hq (by decide : ¬ (2 : Int) = 9), fun hq => absurd hq (by decide : ¬ (2 : Int) = 10), fun hq => absurd hq (by decide : ¬ (2 : Int) = 3), fun hq => absurd hq (by decide : ¬ (2 : Int) = 5)⟩
      refine Eq.trans (fits_yes hF) rfl
  · refine And.intro (fun hc => no_tf hc) (fun _ => ?_)
    refine And.intro (fun h0 => ?_) (fun h0 => ?_)
    · refine Eq.trans (fits_no (c := ⟨3, v0, v1, v2, v3⟩) fun h => ?_) rfl
      have h0 : (decide (v0 < 1) || decide (16384 < v0)) = true := h0
      simp only [Bool.or_eq_true, decide_eq_true_eq] at h0
      have h : 1 ≤ v0 ∧ v0 ≤ 16384 ∧ 1 ≤ v1 ∧ v1 ≤ 16384 ∧ 0 ≤ v2 ∧ v2 ≤ 1 ∧ 0 ≤ v3 ∧ v3 ≤ 1 := h.2.2.2.2.1 rfl
      omega
    refine And.intro (fun h1 => ?_) (fun h1 => ?_)
    · refine Eq.trans (fits_no (c := ⟨3, v0, v1, v2, v3⟩) fun h => ?_) rfl
      have h1 : (decide (v1 < 1) || decide (16384 < v1)) = true := h1
      simp only [Bool.or_eq_true, decide_eq_true_eq] at h1
      have h : 1 ≤ v0 ∧ v0 ≤ 16384 ∧ 1 ≤ v1 ∧ v1 ≤ 16384 ∧ 0 ≤ v2 ∧ v2 ≤ 1 ∧ 0 ≤ v3 ∧ v3 ≤ 1 := h.2.2.2.2.1 rfl
      omega
    refine And.intro (fun h2 => ?_) (fun h2 => ?_)
    · refine Eq.trans (fits_no (c := ⟨3, v0, v1, v2, v3⟩) fun h => ?_) rfl
      have h2 : (decide (v2 < 0) || decide (1 < v2)) = true := h2
      simp only [Bool.or_eq_true, decide_eq_true_eq] at h2
      have h : 1 ≤ v0 ∧ v0 ≤ 16384 ∧ 1 ≤ v1 ∧ v1 ≤ 16384 ∧ 0 ≤ v2 ∧ v2 ≤ 1 ∧ 0 ≤ v3 ∧ v3 ≤ 1 := h.2.2.2.2.1 rfl
      omega
    refine And.intro (fun h3 => ?_) (fun h3 => ?_)
    · refine Eq.trans (fits_no (c := ⟨3, v0, v1, v2, v3⟩) fun h => ?_) rfl
      have h3 : (decide (v3 < 0) || decide (1 < v3)) = true := h3
      simp only [Bool.or_eq_true, decide_eq_true_eq] at h3
      have h : 1 ≤ v0 ∧ v0 ≤ 16384 ∧ 1 ≤ v1 ∧ v1 ≤ 16384 ∧ 0 ≤ v2 ∧ v2 ≤ 1 ∧ 0 ≤ v3 ∧ v3 ≤ 1 := h.2.2.2.2.1 rfl
      omega
    refine And.intro (fun hq => ?_) (fun hq => ?_)
    · refine Eq.trans (b := decide (v2 = 0) || decide (v0 = v1)) ?_ rfl
      have h0 : (decide (v0 < 1) || decide (16384 < v0)) = false := h0
      have h1 : (decide (v1 < 1) || decide (16384 < v1)) = false := h1
      have h2 : (decide (v2 < 0) || decide (1 < v2)) = false := h2
      have h3 : (decide (v3 < 0) || decide (1 < v3)) = false := h3
      simp only [Bool.or_eq_false_iff, decide_eq_false_iff_not] at h0 h1 h2 h3
      by_cases hx : v2 = 0 ∨ v0 = v1
      · skip
        have hF : Comp.Fits ⟨3, v0, v1, v2, v3⟩ := by
          refine ⟨(by decide : (1 : Int) ≤ 3), (by decide : (3 : Int) ≤ 10), fun hq => absurd hq (by decide : ¬ (3 : Int) = 1), fun hq => absurd hq (by decide : ¬ (3 : Int) = 2), fun _ => by (dsimp only; omega), fun hq => absurd hq (by decide : ¬ (3 : Int) = 4), fun hq => absurd hq (by decide : ¬ (3 : Int) = 5), fun hq => absurd hq (by decide : ¬ (3 : Int) = 6), fun hq => absurd hq (by decide : ¬ (3 : Int) = 7), fun hq => absurd hq (by decide : ¬ (3 : Int) = 8), fun hq => absurd hq (by decide : ¬ (3 : Int) = 9), fun hq => absurd hq (by decide : ¬ (3 : Int) = 10), fun _ => hx, fun hq => absurd hq (by decide : ¬ (3 : Int) = 5)⟩
        rw [fits_yes hF]
        rcases hx with hx | hx
        · rw [decide_eq_true hx]; rfl
        · rw [decide_eq_true hx, Bool.or_true]
      · rw [fits_no (c := ⟨3, v0, v1, v2, v3⟩) fun h => hx (h.2.2.2.2.2.2.2.2.2.2.2.2.1 rfl), decide_eq_false (fun e => hx (.inl e)), decide_eq_false (fun e => hx (.inr e))]; rfl
    · exact no_ft hq
  · refine And.intro (fun hc => no_tf hc) (fun _ => ?_)
    refine And.intro (fun h0 => ?_) (fun h0 => ?_)
    · refine Eq.trans (fits_no (c := ⟨4, v0, v1, v2, v3⟩) fun h => ?_) rfl
      have h0 : (decide (v0 < 1) || decide (8 < v0)) = true := h0
      simp only [Bool.or_eq_true, decide_eq_true_eq] at h0
      have h : 1 ≤ v0 ∧ v0 ≤ 8 ∧ 0 ≤ v1 ∧ v1 ≤ 0 ∧ 0 ≤ v2 ∧ v2 ≤ 0 ∧ 0 ≤ v3 ∧ v3 ≤ 0 := h.2.2.2.2.2.1 rfl
      omega
    refine And.intro (fun h1 => ?_) (fun h1 => ?_)
    · refine Eq.trans (fits_no (c := ⟨4, v0, v1, v2, v3⟩) fun h => ?_) rfl
      have h1 : (decide (v1 < 0) || decide (0 < v1)) = true := h1
      simp only [Bool.or_eq_true, decide_eq_true_eq] at h1
      have h : 1 ≤ v0 ∧ v0 ≤ 8 ∧ 0 ≤ v1 ∧ v1 ≤ 0 ∧ 0 ≤ v2 ∧ v2 ≤ 0 ∧ 0 ≤ v3 ∧ v3 ≤ 0 := h.2.2.2.2.2.1 rfl
      omega
    refine And.intro (fun h2 => ?_) (fun h2 => ?_)
    · refine Eq.trans (fits_no (c := ⟨4, v0, v1, v2, v3⟩) fun h => ?_) rfl
      have h2 : (decide (v2 < 0) || decide (0 < v2)) = true := h2
      simp only [Bool.or_eq_true, decide_eq_true_eq] at h2
      have h : 1 ≤ v0 ∧ v0 ≤ 8 ∧ 0 ≤ v1 ∧ v1 ≤ 0 ∧ 0 ≤ v2 ∧ v2 ≤ 0 ∧ 0 ≤ v3 ∧ v3 ≤ 0 := h.2.2.2.2.2.1 rfl
      omega
    refine And.intro (fun h3 => ?_) (fun h3 => ?_)
    · refine Eq.trans (fits_no (c := ⟨4, v0, v1, v2, v3⟩) fun h => ?_) rfl
      have h3 : (decide (v3 < 0) || decide (0 < v3)) = true := h3
      simp only [Bool.or_eq_true, decide_eq_true_eq] at h3
      have h : 1 ≤ v0 ∧ v0 ≤ 8 ∧ 0 ≤ v1 ∧ v1 ≤ 0 ∧ 0 ≤ v2 ∧ v2 ≤ 0 ∧ 0 ≤ v3 ∧ v3 ≤ 0 := h.2.2.2.2.2.1 rfl
      omega
    refine And.intro (fun hq => ?_) (fun hq => ?_)
    · exact no_tf hq
    refine And.intro (fun hq => ?_) (fun hq => ?_)
    · exact no_tf hq
    · skip
      have h0 : (decide (v0 < 1) || decide (8 < v0)) = false := h0
      have h1 : (decide (v1 < 0) || decide (0 < v1)) = false := h1
      have h2 : (decide (v2 < 0) || decide (0 < v2)) = false := h2
      have h3 : (decide (v3 < 0) || decide (0 < v3)) = false := h3
      simp only [Bool.or_eq_false_iff, decide_eq_false_iff_not] at h0 h1 h2 h3
      have hF : Comp.Fits ⟨4, v0, v1, v2, v3⟩ := by
        refine ⟨(by decide : (1 : Int) ≤ 4), (by decide : (4 : Int) ≤ 10), fun hq => absurd hq (by decide : ¬ (4 : Int) = 1), fun hq => absurd hq (by decide : ¬ (4 : Int) = 2), fun hq => absurd hq (by decide : ¬ (4 : Int) = 3), fun _ => by (dsimp only; omega), fun hq => absurd hq (by decide : ¬ (4 : Int) = 5), fun hq => absurd hq (by decide : ¬ (4 : Int) = 6), fun hq => absurd hq (by decide : ¬ (4 : Int) = 7), fun hq => absurd hq (by decide : ¬ (4 : Int) = 8), fun hq => absurd hq (by decide : ¬ (4 : Int) = 9), fun hq => absurd hq (by decide : ¬ (4 : Int) = 10), fun hq => absurd hq (by decide : ¬ (4 : Int) = 3), fun hq => absurd hq (by decide : ¬ (4 : Int) = 5)⟩
      refine Eq.trans (fits_yes hF) rfl
  · refine And.intro (fun hc => no_tf hc) (fun _ => ?_)
    refine And.intro (fun h0 => ?_) (fun h0 => ?_)
    · refine Eq.trans (fits_no (c := ⟨5, v0, v1, v2, v3⟩) fun h => ?_) rfl
      have h0 : (decide (v0 < 0) || decide (510 < v0)) = true := h0
      simp only [Bool.or_eq_true, decide_eq_true_eq] at h0
      have h : 0 ≤ v0 ∧ v0 ≤ 510 ∧ 0 ≤ v1 ∧ v1 ≤ 0 ∧ 0 ≤ v2 ∧ v2 ≤ 0 ∧ 0 ≤ v3 ∧ v3 ≤ 0 := h.2.2.2.2.2.2.1 rfl
      omega
    refine And.intro (fun h1 => ?_) (fun h1 => ?_)
    · refine Eq.trans (fits_no (c := ⟨5, v0, v1, v2, v3⟩) fun h => ?_) rfl
      have h1 : (decide (v1 < 0) || decide (0 < v1)) = true := h1
      simp only [Bool.or_eq_true, decide_eq_true_eq] at h1
      have h : 0 ≤ v0 ∧ v0 ≤ 510 ∧ 0 ≤ v1 ∧ v1 ≤ 0 ∧ 0 ≤ v2 ∧ v2 ≤ 0 ∧ 0 ≤ v3 ∧ v3 ≤ 0 := h.2.2.2.2.2.2.1 rfl
      omega
    refine And.intro (fun h2 => ?_) (fun h2 => ?_)
    · refine Eq.trans (fits_no (c := ⟨5, v0, v1, v2, v3⟩) fun h => ?_) rfl
      have h2 : (decide (v2 < 0) || decide (0 < v2)) = true := h2
      simp only [Bool.or_eq_true, decide_eq_true_eq] at h2
      have h : 0 ≤ v0 ∧ v0 ≤ 510 ∧ 0 ≤ v1 ∧ v1 ≤ 0 ∧ 0 ≤ v2 ∧ v2 ≤ 0 ∧ 0 ≤ v3 ∧ v3 ≤ 0 := h.2.2.2.2.2.2.1 rfl
      omega
    refine And.intro (fun h3 => ?_) (fun h3 => ?_)
    · refine Eq.trans (fits_no (c := ⟨5, v0, v1, v2, v3⟩) fun h => ?_) rfl
      have h3 : (decide (v3 < 0) || decide (0 < v3)) = true := h3
      simp only [Bool.or_eq_true, decide_eq_true_eq] at h3
      have h : 0 ≤ v0 ∧ v0 ≤ 510 ∧ 0 ≤ v1 ∧ v1 ≤ 0 ∧ 0 ≤ v2 ∧ v2 ≤ 0 ∧ 0 ≤ v3 ∧ v3 ≤ 0 := h.2.2.2.2.2.2.1 rfl
      omega
    refine And.intro (fun hq => ?_) (fun hq => ?_)
    · exact no_tf hq
    refine And.intro (fun hq => ?_) (fun hq => ?_)
    · refine Eq.trans (b := decide (v0.tmod 2 = 0)) ?_ rfl
      have h0 : (decide (v0 < 0) || decide (510 < v0)) = false := h0
      have h1 : (decide (v1 < 0) || decide (0 < v1)) = false := h1
      have h2 : (decide (v2 < 0) || decide (0 < v2)) = false := h2
      have h3 : (decide (v3 < 0) || decide (0 < v3)) = false := h3
      simp only [Bool.or_eq_false_iff, decide_eq_false_iff_not] at h0 h1 h2 h3
      rw [Int.tmod_eq_emod_of_nonneg (by omega)]
      by_cases hx : v0 % 2 = 0
      · skip
        have hF : Comp.Fits ⟨5, v0, v1, v2, v3⟩ := by
          refine ⟨(by decide : (1 : Int) ≤ 5), (by decide : (5 : Int) ≤ 10), fun hq => absurd hq (by decide : ¬ (5 : Int) = 1), fun hq => absurd hq (by decide : ¬ (5 : Int) = 2), fun hq => absurd hq (by decide : ¬ (5 : Int) = 3), fun hq => absurd hq (by decide : ¬ (5 : Int) = 4), fun _ => by (dsimp only; omega), fun hq => absurd hq (by decide : ¬ (5 : Int) = 6), fun hq => absurd hq (by decide : ¬ (5 : Int) = 7), fun hq => absurd hq (by decide : ¬ (5 : Int) = 8), fun hq => absurd hq (by decide : ¬ (5 : Int) = 9), fun hq => absurd hq (by decide : ¬ (5 : Int) = 10), fun hq => absurd hq (by decide : ¬ (5 : Int) = 3), fun _ => hx⟩
        rw [fits_yes hF, decide_eq_true hx]
      · rw [fits_no (c := ⟨5, v0, v1, v2, v3⟩) fun h => hx (h.2.2.2.2.2.2.2.2.2.2.2.2.2 rfl), decide_eq_false hx]
    · exact no_ft hq
  · refine And.intro (fun hc => no_tf hc) (fun _ => ?_)
    refine And.intro (fun h0 => ?_) (fun h0 => ?_)
    · refine Eq.trans (fits_no (c := ⟨6, v0, v1, v2, v3⟩) fun h => ?_) rfl
      have h0 : (decide (v0 < 0) || decide (15 < v0)) = true := h0
      simp only [Bool.or_eq_true, decide_eq_true_eq] at h0
      have h : 0 ≤ v0 ∧ v0 ≤ 15 ∧ 0 ≤ v1 ∧ v1 ≤ 0 ∧ 0 ≤ v2 ∧ v2 ≤ 0 ∧ 0 ≤ v3 ∧ v3 ≤ 0 := h.2.2.2.2.2.2.2.1 rfl
      omega
    refine And.intro (fun h1 => ?_) (fun h1 => ?_)
    · refine Eq.trans (fits_no (c := ⟨6, v0, v1, v2, v3⟩) fun h => ?_) rfl
      have h1 : (decide (v1 < 0) || decide (0 < v1)) = true := h1
      simp only [Bool.or_eq_true, decide_eq_true_eq] at h1
      have h : 0 ≤ v0 ∧ v0 ≤ 15 ∧ 0 ≤ v1 ∧ v1 ≤ 0 ∧ 0 ≤ v2 ∧ v2 ≤ 0 ∧ 0 ≤ v3 ∧ v3 ≤ 0 := h.2.2.2.2.2.2.2.1 rfl
      omega
    refine And.intro (fun h2 => ?_) (fun h2 => ?_)
    · refine Eq.trans (fits_no (c := ⟨6, v0, v1, v2, v3⟩) fun h => ?_) rfl
      have h2 : (decide (v2 < 0) || decide (0 < v2)) = true := h2
      simp only [Bool.or_eq_true, decide_eq_true_eq] at h2
      have h : 0 ≤ v0 ∧ v0 ≤ 15 ∧ 0 ≤ v1 ∧ v1 ≤ 0 ∧ 0 ≤ v2 ∧ v2 ≤ 0 ∧ 0 ≤ v3 ∧ v3 ≤ 0 := h.2.2.2.2.2.2.2.1 rfl
      omega
    refine And.intro (fun h3 => ?_) (fun h3 => ?_)
    · refine Eq.trans (fits_no (c := ⟨6, v0, v1, v2, v3⟩) fun h => ?_) rfl
      have h3 : (decide (v3 < 0) || decide (0 < v3)) = true := h3
      simp only [Bool.or_eq_true, decide_eq_true_eq] at h3
      have h : 0 ≤ v0 ∧ v0 ≤ 15 ∧ 0 ≤ v1 ∧ v1 ≤ 0 ∧ 0 ≤ v2 ∧ v2 ≤ 0 ∧ 0 ≤ v3 ∧ v3 ≤ 0 := h.2.2.2.2.2.2.2.1 rfl
      omega
    refine And.intro (fun hq => ?_) (fun hq => ?_)
    · exact no_tf hq
    refine And.intro (fun hq => ?_) (fun hq => ?_)
    · exact no_tf hq
    · skip
      have h0 : (decide (v0 < 0) || decide (15 < v0)) = false := h0
      have h1 : (decide (v1 < 0) || decide (0 < v1)) = false := h1
      have h2 : (decide (v2 < 0) || decide (0 < v2)) = false := h2
      have h3 : (decide (v3 < 0) || decide (0 < v3)) = false := h3
      simp only [Bool.or_eq_false_iff, decide_eq_false_iff_not] at h0 h1 h2 h3
      have hF : Comp.Fits ⟨6, v0, v1, v2, v3⟩ := by
        refine ⟨(by decide : (1 : Int) ≤ 6), (by decide : (6 : Int) ≤ 10), fun hq => absurd hq (by decide : ¬ (6 : Int) = 1), fun hq => absurd hq (by decide : ¬ (6 : Int) = 2), fun hq => absurd hq (by decide : ¬ (6 : Int) = 3), fun hq => absurd hq (by decide : ¬ (6 : Int) = 4), fun hq => absurd hq (by decide : ¬ (6 : Int) = 5), fun _ => by (dsimp only; omega), fun hq => absurd hq (by decide : ¬ (6 : Int) = 7), fun hq => absurd hq (by decide : ¬ (6 : Int) = 8), fun hq => absurd hq (by decide : ¬ (6 : Int) = 9), fun hq => absurd hq (by decide : ¬ (6 : Int) = 10), fun hq => absurd hq (by decide : ¬ (6 : Int) = 3), fun hq => absurd hq (by decide : ¬ (6 : Int) = 5)⟩
      refine Eq.trans (fits_yes hF) rfl
  · refine And.intro (fun hc => no_tf hc) (fun _ => ?_)
    refine And.intro (fun h0 => ?_) (fun h0 => ?_)
    · refine Eq.trans (fits_no (c := ⟨7, v0, v1, v2, v3⟩) fun h => ?_) rfl
      have h0 : (decide (v0 < -2147483648) || decide (2147483647 < v0)) = true := h0
      simp only [Bool.or_eq_true, decide_eq_true_eq] at h0
      have h : -2147483648 ≤ v0 ∧ v0 ≤ 2147483647 ∧ -2147483648 ≤ v1 ∧ v1 ≤ 2147483647 ∧ -2147483648 ≤ v2 ∧ v2 ≤ 2147483647 ∧ -2147483648 ≤ v3 ∧ v3 ≤ 2147483647 := h.2.2.2.2.2.2.2.2.1 rfl
      omega
    refine And.intro (fun h1 => ?_) (fun h1 => ?_)
    · refine Eq.trans (fits_no (c := ⟨7, v0, v1, v2, v3⟩) fun h => ?_) rfl
      have h1 : (decide (v1 < -2147483648) || decide (2147483647 < v1)) = true := h1
      simp only [Bool.or_eq_true, decide_eq_true_eq] at h1
      have h : -2147483648 ≤ v0 ∧ v0 ≤ 2147483647 ∧ -2147483648 ≤ v1 ∧ v1 ≤ 2147483647 ∧ -2147483648 ≤ v2 ∧ v2 ≤ 2147483647 ∧ -2147483648 ≤ v3 ∧ v3 ≤ 2147483647 := h.2.2.2.2.2.2.2.2.1 rfl
      omega
    refine And.intro (fun h2 => ?_) (fun h2 => ?_)
    · refine Eq.trans (fits_no (c := ⟨7, v0, v1, v2, v3⟩) fun h => ?_) rfl
      have h2 : (decide (v2 < -2147483648) || decide (2147483647 < v2)) = true := h2
      simp only [Bool.or_eq_true, decide_eq_true_eq] at h2
      have h : -2147483648 ≤ v0 ∧ v0 ≤ 2147483647 ∧ -2147483648 ≤ v1 ∧ v1 ≤ 2147483647 ∧ -2147483648 ≤ v2 ∧ v2 ≤ 2147483647 ∧ -2147483648 ≤ v3 ∧ v3 ≤ 2147483647 := h.2.2.2.2.2.2.2.2.1 rfl
      omega
    refine And.intro (fun h3 => ?_) (fun h3 => ?_)
    · refine Eq.trans (fits_no (c := ⟨7, v0, v1, v2, v3⟩) fun h => ?_) rfl
      have h3 : (decide (v3 < -2147483648) || decide (2147483647 < v3)) = true := h3
      simp only [Bool.or_eq_true, decide_eq_true_eq] at h3
      have h : -2147483648 ≤ v0 ∧ v0 ≤ 2147483647 ∧ -2147483648 ≤ v1 ∧ v1 ≤ 2147483647 ∧ -2147483648 ≤ v2 ∧ v2 ≤ 2147483647 ∧ -2147483648 ≤ v3 ∧ v3 ≤ 2147483647 := h.2.2.2.2.2.2.2.2.1 rfl
      omega
    refine And.intro (fun hq => ?_) (fun hq => ?_)
    · exact no_tf hq
    refine And.intro (fun hq => ?_) (fun hq => ?_)
    · exact no_tf hq
    · skip
      have h0 : (decide (v0 < -2147483648) || decide (2147483647 < v0)) = false := h0
      have h1 : (decide (v1 < -2147483648) || decide (2147483647 < v1)) = false := h1
      have h2 : (decide (v2 < -2147483648) || decide (2147483647 < v2)) = false := h2
      have h3 : (decide (v3 < -2147483648) || decide (2147483647 < v3)) = false := h3
      simp only [Bool.or_eq_false_iff, decide_eq_false_iff_not] at h0 h1 h2 h3
      have hF : Comp.Fits ⟨7, v0, v1, v2, v3⟩ := by
        refine ⟨(by decide : (1 : Int) ≤ 7), (by decide : (7 : Int) ≤ 10), fun hq => absurd hq (by decide : ¬ (7 : Int) = 1), fun hq => absurd hq (by decide : ¬ (7 : Int) = 2), fun hq => absurd hq (by decide : ¬ (7 : Int) = 3), fun hq => absurd hq (by decide : ¬ (7 : Int) = 4), fun hq => absurd hq (by decide : ¬ (7 : Int) = 5), fun hq => absurd hq (by decide : ¬ (7 : Int) = 6), fun _ => by (dsimp only; omega), fun hq => absurd hq (by decide : ¬ (7 : Int) = 8), fun hq => absurd hq (by decide : ¬ (7 : Int) = 9), fun hq => absurd hq (by decide : ¬ (7 : Int) = 10), fun hq => absurd hq (by decide : ¬ (7 : Int) = 3), fun hq => absurd hq (by decide : ¬ (7 : Int) = 5)⟩
      refine Eq.trans (fits_yes hF) rfl
  · refine And.intro (fun hc => no_tf hc) (fun _ => ?_)
    refine And.intro (fun h0 => ?_) (fun h0 => ?_)
    · refine Eq.trans (fits_no (c := ⟨8, v0, v1, v2, v3⟩) fun h => ?_) rfl
      have h0 : (decide (v0 < 0) || decide (1048576 < v0)) = true := h0
      simp only [Bool.or_eq_true, decide_eq_true_eq] at h0
      have h : 0 ≤ v0 ∧ v0 ≤ 1048576 ∧ 0 ≤ v1 ∧ v1 ≤ 1048576 ∧ 0 ≤ v2 ∧ v2 ≤ 0 ∧ 0 ≤ v3 ∧ v3 ≤ 0 := h.2.2.2.2.2.2.2.2.2.1 rfl
      omega
    refine And.intro (fun h1 => ?_) (fun h1 => ?_)
    · refine Eq.trans (fits_no (c := ⟨8, v0, v1, v2, v3⟩) fun h => ?_) rfl
      have h1 : (decide (v1 < 0) || decide (1048576 < v1)) = true := h1
      simp only [Bool.or_eq_true, decide_eq_true_eq] at h1
      have h : 0 ≤ v0 ∧ v0 ≤ 1048576 ∧ 0 ≤ v1 ∧ v1 ≤ 1048576 ∧ 0 ≤ v2 ∧ v2 ≤ 0 ∧ 0 ≤ v3 ∧ v3 ≤ 0 := h.2.2.2.2.2.2.2.2.2.1 rfl
      omega
    refine And.intro (fun h2 => ?_) (fun h2 => ?_)
    · refine Eq.trans (fits_no (c := ⟨8, v0, v1, v2, v3⟩) fun h => ?_) rfl
      have h2 : (decide (v2 < 0) || decide (0 < v2)) = true := h2
      simp only [Bool.or_eq_true, decide_eq_true_eq] at h2
      have h : 0 ≤ v0 ∧ v0 ≤ 1048576 ∧ 0 ≤ v1 ∧ v1 ≤ 1048576 ∧ 0 ≤ v2 ∧ v2 ≤ 0 ∧ 0 ≤ v3 ∧ v3 ≤ 0 := h.2.2.2.2.2.2.2.2.2.1 rfl
      omega
    refine And.intro (fun h3 => ?_) (fun h3 => ?_)
    · refine Eq.trans (fits_no (c := ⟨8, v0, v1, v2, v3⟩) fun h => ?_) rfl
      have h3 : (decide (v3 < 0) || decide (0 < v3)) = true := h3
      simp only [Bool.or_eq_true, decide_eq_true_eq] at h3
      have h : 0 ≤ v0 ∧ v0 ≤ 1048576 ∧ 0 ≤ v1 ∧ v1 ≤ 1048576 ∧ 0 ≤ v2 ∧ v2 ≤ 0 ∧ 0 ≤ v3 ∧ v3 ≤ 0 := h.2.2.2.2.2.2.2.2.2.1 rfl
      omega
    refine And.intro (fun hq => ?_) (fun hq => ?_)
    · exact no_tf hq
    refine And.intro (fun hq => ?_) (fun hq => ?_)
    · exact no_tf hq
    · skip
      have h0 : (decide (v0 < 0) || decide (1048576 < v0)) = false := h0
      have h1 : (decide (v1 < 0) || decide (1048576 < v1)) = false := h1
      have h2 : (decide (v2 < 0) || decide (0 < v2)) = false := h2
      have h3 : (decide (v3 < 0) || decide (0 < v3)) = false := h3
      simp only [Bool.or_eq_false_iff, decide_eq_false_iff_not] at h0 h1 h2 h3
      have hF : Comp.Fits ⟨8, v0, v1, v2, v3⟩ := by
        refine ⟨(by decide : (1 : Int) ≤ 8), (by decide : (8 : Int) ≤ 10), fun hq => absurd hq (by decide : ¬ (8 : Int) = 1), fun hq => absurd hq (by decide : ¬ (8 : Int) = 2), fun hq => absurd hq (by decide : ¬ (8 : Int) = 3), fun hq => absurd hq (by decide : ¬ (8 : Int) = 4), fun hq => absurd hq (by decide : ¬ (8 : Int) = 5), fun hq => absurd hq (by decide : ¬ (8 : Int) = 6), fun hq => absurd hq (by decide : ¬ (8 : Int) = 7), fun _ => by (dsimp only; omega), fun hq => absurd hq (by decide : ¬ (8 : Int) = 9), fun hq => absurd hq (by decide : ¬ (8 : Int) = 10), fun hq => absurd hq (by decide : ¬ (8 : Int) = 3), fun hq => absurd hq (by decide : ¬ (8 : Int) = 5)⟩
      refine Eq.trans (fits_yes hF) rfl
  · refine And.intro (fun hc => no_tf hc) (fun _ => ?_)
    refine And.intro (fun h0 => ?_) (fun h0 => ?_)
    · refine Eq.trans (fits_no (c := ⟨9, v0, v1, v2, v3⟩) fun h => ?_) rfl
      have h0 : (decide (v0 < 0) || decide (2147483647 < v0)) = true := h0
      simp only [Bool.or_eq_true, decide_eq_true_eq] at h0
      have h : 0 ≤ v0 ∧ v0 ≤ 2147483647 ∧ 0 ≤ v1 ∧ v1 ≤ 2147483647 ∧ 0 ≤ v2 ∧ v2 ≤ 2147483647 ∧ 0 ≤ v3 ∧ v3 ≤ 2147483647 := h.2.2.2.2.2.2.2.2.2.2.1 rfl
      omega
    refine And.intro (fun h1 => ?_) (fun h1 => ?_)
    · refine Eq.trans (fits_no (c := ⟨9, v0, v1, v2, v3⟩) fun h => ?_) rfl
      have h1 : (decide (v1 < 0) || decide (2147483647 < v1)) = true := h1
      simp only [Bool.or_eq_true, decide_eq_true_eq] at h1
      have h : 0 ≤ v0 ∧ v0 ≤ 2147483647 ∧ 0 ≤ v1 ∧ v1 ≤ 2147483647 ∧ 0 ≤ v2 ∧ v2 ≤ 2147483647 ∧ 0 ≤ v3 ∧ v3 ≤ 2147483647 := h.2.2.2.2.2.2.2.2.2.2.1 rfl
      omega
    refine And.intro (fun h2 => ?_) (fun h2 => ?_)
    · refine Eq.trans (fits_no (c := ⟨9, v0, v1, v2, v3⟩) fun h => ?_) rfl
      have h2 : (decide (v2 < 0) || decide (2147483647 < v2)) = true := h2
      simp only [Bool.or_eq_true, decide_eq_true_eq] at h2
      have h : 0 ≤ v0 ∧ v0 ≤ 2147483647 ∧ 0 ≤ v1 ∧ v1 ≤ 2147483647 ∧ 0 ≤ v2 ∧ v2 ≤ 2147483647 ∧ 0 ≤ v3 ∧ v3 ≤ 2147483647 := h.2.2.2.2.2.2.2.2.2.2.1 rfl
      omega
    refine And.intro (fun h3 => ?_) (fun h3 => ?_)
    · refine Eq.trans (fits_no (c := ⟨9, v0, v1, v2, v3⟩) fun h => ?_) rfl
      have h3 : (decide (v3 < 0) || decide (2147483647 < v3)) = true := h3
      simp only [Bool.or_eq_true, decide_eq_true_eq] at h3
      have h : 0 ≤ v0 ∧ v0 ≤ 2147483647 ∧ 0 ≤ v1 ∧ v1 ≤ 2147483647 ∧ 0 ≤ v2 ∧ v2 ≤ 2147483647 ∧ 0 ≤ v3 ∧ v3 ≤ 2147483647 := h.2.2.2.2.2.2.2.2.2.2.1 rfl
      omega
    refine And.intro (fun hq => ?_) (fun hq => ?_)
    · exact no_tf hq
    refine And.intro (fun hq => ?_) (fun hq => ?_)
    · exact no_tf hq
    · skip
      have h0 : (decide (v0 < 0) || decide (2147483647 < v0)) = false := h0
      have h1 : (decide (v1 < 0) || decide (2147483647 < v1)) = false := h1
      have h2 : (decide (v2 < 0) || decide (2147483647 < v2)) = false := h2
      have h3 : (decide (v3 < 0) || decide (2147483647 < v3)) = false := h3
      simp only [Bool.or_eq_false_iff, decide_eq_false_iff_not] at h0 h1 h2 h3
      have hF : Comp.Fits ⟨9, v0, v1, v2, v3⟩ := by
        refine ⟨(by decide : (1 : Int) ≤ 9), (by decide : (9 : Int) ≤ 10), fun hq => absurd hq (by decide : ¬ (9 : Int) = 1), fun hq => absurd hq (by decide : ¬ (9 : Int) = 2), fun hq => absurd hq (by decide : ¬ (9 : Int) = 3), fun hq => absurd hq (by decide : ¬ (9 : Int) = 4), fun hq => absurd hq (by decide : ¬ (9 : Int) = 5), fun hq => absurd hq (by decide : ¬ (9 : Int) = 6), fun hq => absurd hq (by decide : ¬ (9 : Int) = 7), fun hq => absurd hq (by decide : ¬ (9 : Int) = 8), fun _ => by (dsimp only; omega), fun hq => absurd hq (by decide : ¬ (9 : Int) = 10), fun hq => absurd hq (by decide : ¬ (9 : Int) = 3), fun hq => absurd hq (by decide : ¬ (9 : Int) = 5)⟩
      refine Eq.trans (fits_yes hF) rfl
  · refine And.intro (fun hc => no_tf hc) (fun _ => ?_)
    refine And.intro (fun h0 => ?_) (fun h0 => ?_)
    · refine Eq.trans (fits_no (c := ⟨10, v0, v1, v2, v3⟩) fun h => ?_) rfl
      have h0 : (decide (v0 < -2147483648) || decide (2147483647 < v0)) = true := h0
      simp only [Bool.or_eq_true, decide_eq_true_eq] at h0
      have h : -2147483648 ≤ v0 ∧ v0 ≤ 2147483647 ∧ -2147483648 ≤ v1 ∧ v1 ≤ 2147483647 ∧ -2147483648 ≤ v2 ∧ v2 ≤ 2147483647 ∧ -2147483648 ≤ v3 ∧ v3 ≤ 2147483647 := h.2.2.2.2.2.2.2.2.2.2.2.1 rfl
      omega
    refine And.intro (fun h1 => ?_) (fun h1 => ?_)
    · refine Eq.trans (fits_no (c := ⟨10, v0, v1, v2, v3⟩) fun h => ?_) rfl
      have h1 : (decide (v1 < -2147483648) || decide (2147483647 < v1)) = true := h1
      simp only [Bool.or_eq_true, decide_eq_true_eq] at h1
      have h : -2147483648 ≤ v0 ∧ v0 ≤ 2147483647 ∧ -2147483648 ≤ v1 ∧ v1 ≤ 2147483647 ∧ -2147483648 ≤ v2 ∧ v2 ≤ 2147483647 ∧ -2147483648 ≤ v3 ∧ v3 ≤ 2147483647 := h.2.2.2.2.2.2.2.2.2.2.2.1 rfl
      omega
    refine And.intro (fun h2 => ?_) (fun h2 => ?_)
    · refine Eq.trans (fits_no (c := ⟨10, v0, v1, v2, v3⟩) fun h => ?_) rfl
      have h2 : (decide (v2 < -2147483648) || decide (2147483647 < v2)) = true := h2
      simp only [Bool.or_eq_true, decide_eq_true_eq] at h2
      have h : -2147483648 ≤ v0 ∧ v0 ≤ 2147483647 ∧ -2147483648 ≤ v1 ∧ v1 ≤ 2147483647 ∧ -2147483648 ≤ v2 ∧ v2 ≤ 2147483647 ∧ -2147483648 ≤ v3 ∧ v3 ≤ 2147483647 := h.2.2.2.2.2.2.2.2.2.2.2.1 rfl
      omega
    refine And.intro (fun h3 => ?_) (fun h3 => ?_)
    · refine Eq.trans (fits_no (c := ⟨10, v0, v1, v2, v3⟩) fun h => ?_) rfl
      have h3 : (decide (v3 < -2147483648) || decide (2147483647 < v3)) = true := h3
      simp only [Bool.or_eq_true, decide_eq_true_eq] at h3
      have h : -2147483648 ≤ v0 ∧ v0 ≤ 2147483647 ∧ -2147483648 ≤ v1 ∧ v1 ≤ 2147483647 ∧ -2147483648 ≤ v2 ∧ v2 ≤ 2147483647 ∧ -2147483648 ≤ v3 ∧ v3 ≤ 2147483647 := h.2.2.2.2.2.2.2.2.2.2.2.1 rfl
      omega
    refine And.intro (fun hq => ?_) (fun hq => ?_)
    · exact no_tf hq
    refine And.intro (fun hq => ?_) (fun hq => ?_)
    · exact no_tf hq
    · skip
      have h0 : (decide (v0 < -2147483648) || decide (2147483647 < v0)) = false := h0
      have h1 : (decide (v1 < -2147483648) || decide (2147483647 < v1)) = false := h1
      have h2 : (decide (v2 < -2147483648) || decide (2147483647 < v2)) = false := h2
      have h3 : (decide (v3 < -2147483648) || decide (2147483647 < v3)) = false := h3
      simp only [Bool.or_eq_false_iff, decide_eq_false_iff_not] at h0 h1 h2 h3
      have hF : Comp.Fits ⟨10, v0, v1, v2, v3⟩ := by
        refine ⟨(by decide : (1 : Int) ≤ 10), (by decide : (10 : Int) ≤ 10), fun hq => absurd hq (by decide : ¬ (10 : Int) = 1), fun hq => absurd hq (by decide : ¬ (10 : Int) = 2), fun hq => absurd hq (by decide : ¬ (10 : Int) = 3), fun hq => absurd hq (by decide : ¬ (10 : Int) = 4), fun hq => absurd hq (by decide : ¬ (10 : Int) = 5), fun hq => absurd hq (by decide : ¬ (10 : Int) = 6), fun hq => absurd hq (by decide : ¬ (10 : Int) = 7), fun hq => absurd hq (by decide : ¬ (10 : Int) = 8), fun hq => absurd hq (by decide : ¬ (10 : Int) = 9), fun _ => by (dsimp only; omega), fun hq => absurd hq (by decide : ¬ (10 : Int) = 3), fun hq => absurd hq (by decide : ¬ (10 : Int) = 5)⟩
      refine Eq.trans (fits_yes hF) rfl
noncomputable def conFits : Con cx := walkCon 51 Tryz.call51 (rds1 rdComp) (fun a => [0 ≤ a.kind ∧ a.kind ≤ 255]) (fun a => .v (.bool a.fits)) (fun _ => ⟨[], [], [], 5⟩) [] (fun _ => rfl) follows Tryz.func51 (by kernel_rfl) Fits_walk
end Go.Proofs.YtjdohgcolhpegaaGreatDoor
