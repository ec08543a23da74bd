/- The examples of the chapter. -/
import Derived.Test.YtinefblphbicaaaDoorH15
namespace Go.Proofs.YtinefblphbicaaaDoor
open Go.RowKit

def vbeyond (v : Vec) (m : Int) : Bool := decide (v.x < -m) || decide (m < v.x) || decide (v.y < -m) || decide (m < v.y)
set_option maxHeartbeats 2000000 in
set_option maxRecDepth 8000 in
theorem vbeyond_walk : ∀ a : Vec × Int, conj [0 ≤ a.2 ∧ a.2 ≤ 65536] → evFn (C := cx) [] [] 0 noHow Tryd.f10 ((rds2 rdVec (rdI .i64)).enc a) fun v H _ => resOut (.v (.bool (vbeyond a.1 a.2))) H v := by
  intro ⟨v, m⟩ hm
  replace hm : 0 ≤ m ∧ m ≤ 65536 := hm
  repeat' (first | (refine And.intro ?_ ?_) | (intro _))
  all_goals (try (refine Eq.trans ?_ rfl))
  all_goals (try simp only [vbeyond, rds2, rdI, rdVec, Vec.of, hdS, tlS, SV.al, SV.iv] at *)
  all_goals first | omega | grind | trace_state
noncomputable def conVbeyond : Con cx := walkCon 10 Tryd.call10 (rds2 rdVec (rdI .i64)) (fun a => [0 ≤ a.2 ∧ a.2 ≤ 65536]) (fun a => .v (.bool (vbeyond a.1 a.2))) (fun _ => noHow) [] (fun _ => rfl) follows Tryd.func10 (by kernel_rfl) vbeyond_walk

/-- The watch of the example after k inputs of the loop. -/
structure AInv (k : Nat) (w : Watch) : Prop where
  ok : w.Ok
  cl : w.client = 3
  h : ∀ i, i < w.times.n → w.times.g i = 100
  a : w.seq ≤ 8 + k
  n : w.times.n = min (1 + k) 40
theorem aw_cnt {w : Watch} {c : Int} (h : ∀ i, i < w.times.n → w.times.g i = 100) (hc : c < 100) : cntT w.times.g c w.times.n = 0 := cnt_none fun j hj => by rw [h j hj]; exact hc
def awIn (k : Nat) : Input := ⟨3, 9 + k, 100, 0, 0, false, 0, 0, 0, 0⟩
theorem fl_in (k : Nat) : (flagsOf (awIn k) 100 3) = fl0 := rfl
theorem aw_step {k : Nat} {w : Watch} (h : AInv k w) (hk : k < 40) : (check w 100 (awIn k)).e = 0 ∧ ((check w 100 (awIn k)).ok = true ∧ k < 39 ∧ (check w 100 (awIn k)).l.n = 0 ∨ (check w 100 (awIn k)).ok = false ∧ k = 39 ∧ (check w 100 (awIn k)).l = ⟨1, fun _ => 3⟩) ∧ AInv (k + 1) (check w 100 (awIn k)).w := by
  have hle : ∀ j, j < w.times.n → w.times.g j ≤ 100 := fun j hj => by rw [h.h j hj]; exact Int.le_refl _
  have ht : isTick 100 = true := by decide
  have hg := good_of (i := awIn k) h.ok (by rw [h.cl]; rfl) ht hle
  have hc := aw_cnt (c := 100 - 32) h.h (by omega)
  have fn : (w.fresh 100).times.n = w.times.n := by
    show w.times.n - cntT w.times.g (100 - 32) w.times.n = w.times.n
    rw [hc]; rfl
  have fg : ∀ j, (w.fresh 100).times.g j = w.times.g j := fun j => by
    show w.times.g (cntT w.times.g (100 - 32) w.times.n + j) = _
    rw [hc, Nat.zero_add]
  have ha := h.a
  have hn := h.n
  have h1 : ¬ (awIn k).seq ≤ w.seq := by show ¬ (9 + (k : Int)) ≤ w.seq; omega
  have h2 : ¬ ((awIn k).tick < 100 - 16 ∨ 100 + 8 < (awIn k).tick) := by show ¬ ((100 : Int) < 100 - 16 ∨ (100 : Int) + 8 < 100); omega
  by_cases e : k < 39
  · have hr : refusal w 100 (awIn k) = 0 := by
      unfold refusal
      rw [if_neg h1, if_neg h2, if_neg (by rw [fn]; omega)]
    rw [check_taken hg hr]
    have hT := h.ok.took (i := awIn k) ht hle (by rw [fn]; omega)
    refine ⟨rfl, .inl ⟨rfl, e, rfl⟩, hT, h.cl, fun i hi => ?_, ?_, ?_⟩
    · have hi : i < (w.fresh 100).times.n + 1 := hi
      show ((w.fresh 100).times.push 100).g i = 100
      rw [push_g]
      split
      · rfl
      · rw [fg]; exact h.h i (by omega)
    · show 9 + (k : Int) ≤ _
      omega
    · show (w.fresh 100).times.n + 1 = _
      omega
  · have hr : refusal w 100 (awIn k) = 3 := by
      unfold refusal
      rw [if_neg h1, if_neg h2, if_pos (by rw [fn]; omega)]
    rw [check_refused hg hr (by decide)]
    refine ⟨rfl, .inr ⟨rfl, by omega, rfl⟩, (h.ok.fresh 100).mark1 3, h.cl, fun i hi => ?_, ?_, ?_⟩
    · have hi : i < (w.fresh 100).times.n := hi
      show (w.fresh 100).times.g i = 100
      rw [fg]; exact h.h i (by omega)
    · show w.seq ≤ _
      omega
    · show (w.fresh 100).times.n = _
      omega
def awLast : Input := ⟨3, 60, 132, 0, 0, false, 0, 0, 0, 0⟩
theorem aw_last {w : Watch} (h : AInv 40 w) : (check w 132 awLast).e = 0 ∧ (check w 132 awLast).ok = true := by
  have hle : ∀ j, j < w.times.n → w.times.g j ≤ 132 := fun j hj => by rw [h.h j hj]; decide
  have ht : isTick 132 = true := by decide
  have hg := good_of (i := awLast) h.ok (by rw [h.cl]; rfl) ht hle
  have ha := h.a
  have hn := h.n
  have hc : cntT w.times.g (132 - 32) w.times.n = w.times.n := by
    by_cases e : w.times.n = 0
    · rw [e]; rfl
    · exact cnt_all (sorted_of h.ok.s) (j := w.times.n - 1) (by omega) (by rw [h.h _ (by omega)]; decide) _ (by omega)
  have hr : refusal w 132 awLast = 0 := by
    have h1 : ¬ awLast.seq ≤ w.seq := by show ¬ (60 : Int) ≤ w.seq; omega
    have h2 : ¬ (awLast.tick < 132 - 16 ∨ 132 + 8 < awLast.tick) := by decide
    have h3 : ¬ (40 : Int) ≤ ((w.fresh 132).times.n : Nat) := by
      show ¬ (40 : Int) ≤ ((w.times.n - cntT w.times.g (132 - 32) w.times.n : Nat) : Int)
      rw [hc]; omega
    unfold refusal
    rw [if_neg h1, if_neg h2, if_neg h3]
  rw [check_taken hg hr]
  exact ⟨rfl, rfl⟩
def aw0 : Watch := ⟨3, 7, ⟨0, fun _ => 0⟩, 0, 0, 0, 0, 0, 0, 0, 0, 0⟩
def awI1 : Input := ⟨3, 7, 100, 0, 0, false, 0, 0, 0, 0⟩
def awI2 : Input := ⟨3, 8, 83, 0, 0, false, 0, 0, 0, 0⟩
def awI3 : Input := ⟨3, 8, 100, 128, -64, false, 0, 0, 0, 0⟩
def awR1 : Res := check aw0 100 awI1
def awR2 : Res := check aw0 100 awI2
def awR3 : Res := check aw0 100 awI3
theorem aw_first : awR1.e = 0 ∧ awR1.ok = false ∧ awR1.l.n = 1 ∧ awR1.l.g 0 = 1 := by decide +kernel
theorem aw_second : awR2.e = 0 ∧ awR2.ok = false ∧ awR2.l.n = 1 ∧ awR2.l.g 0 = 2 ∧ awR2.w.points = 2 := by decide +kernel
theorem aw_third : awR3.e = 0 ∧ awR3.ok = true ∧ awR3.l.n = 1 ∧ awR3.l.g 0 = 4 ∧ awR3.w.points = 10 ∧ awR3.i.moveX = 64 ∧ awR3.i.moveY = -32 := by decide +kernel
theorem aw_inv : AInv 0 awR3.w := by
  have h0 : aw0.Ok := Watch.Ok.of (by decide +kernel)
  have e : awR3 = ⟨(aw0.took 100 awI3).marks (flagsOf awI3 100 3) (flagsOf awI3 100 3).n, corr awI3 100 3, flagsOf awI3 100 3, true, 0⟩ := check_taken (by decide +kernel) (by decide +kernel)
  rw [e]
  have hS := marks_same (aw0.took 100 awI3) (flagsOf awI3 100 3) (flagsOf awI3 100 3).n
  have hM := (h0.took (now := 100) (i := awI3) (by decide) (fun j hj => absurd hj (Nat.not_lt_zero _)) (by decide)).marks (flagsOf awI3 100 3) (flagsOf awI3 100 3).n
  generalize (aw0.took 100 awI3).marks (flagsOf awI3 100 3) (flagsOf awI3 100 3).n = z at hM hS
  obtain ⟨s1, s2, s3, s4⟩ := hS
  refine ⟨hM, s1, fun i hi => ?_, ?_, ?_⟩
  · simp only at hi ⊢
    rw [s3] at hi ⊢
    have hi : i < 1 := hi
    obtain rfl : i = 0 := by omega
    rfl
  · simp only; rw [s2]; decide
  · simp only; rw [s3]; rfl
end Go.Proofs.YtinefblphbicaaaDoor
