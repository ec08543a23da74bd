/- Blind. -/
import Derived.Test.YtjdohgcolhpegaaGreatDoorM12
namespace Go.Proofs.YtjdohgcolhpegaaGreatDoor
open Go.RowKit

noncomputable def inBodies : FnI cx := ⟨22, Tryz.call22, Tryz.f22, Tryz.func22, [], [], [3], 1, by kernel_rfl⟩
def blH (w : Wor) (i : Df.Input) (f : Fam) (c : Comp) : Heap := [(0, .lay w.cells 25), (1, .lay i.cells 29), (2, .lay [famS f] 104), (3, .lay c.cells 46)]
def blBodC (w : Wor) (i : Df.Input) (f : Fam) (c : Comp) : Cut := ⟨Nat, fun k => k ≤ w.l.n, fun k => ⟨[sl 1 (.v (.slice none 0 0)), sl 6 (.p 6 0), sl 7 (.p 7 0), sl 18 w.l.sv, sl 19 (i64 w.l.n), sl 20 (i64 k)],
  (6, .lay zeroSc 64) :: (7, .lay [.g 8 9 9 0 (bodiesL w.l k).length, .v (.slice none 0 0), .v (.int .i64 0), .v (.int .i64 0)] 64) :: (8, .lst 9 9 (bodiesL w.l k).length (fun i => (bodG (bodiesL w.l k) i).cells) 60) :: blH w i f c, 10, 0, [], []⟩, fun k => w.l.n - k⟩
def blCut (w : Wor) (i : Df.Input) (c : Comp) : Cut := ⟨Nat × Nat × (Nat → Body), fun x => x.2.1 ≤ x.1 ∧ x.1 ≤ 12 ∧ x.2.1 = (blindL w i).length ∧ ∀ k, k < x.2.1 → x.2.2 k = bodG (blindL w i) k,
  fun x => ⟨[sl 3 (.p 0 0), sl 5 (.p 1 0), sl 10 (.p 3 0), sl 12 (.g 4 5 9 0 x.2.1)], [(0, .lay w.cells 25), (1, .lay i.cells 29), (3, .lay c.cells 46), (4, .lst 5 9 x.1 (fun k => (x.2.2 k).cells) 60)], 6, 0, [], []⟩, fun _ => 0⟩
theorem get_hit {w : Wor} {id q : Int} (h : (getE w id q).2 = true) : w.Valid ∧ ∃ i j, i < w.l.n ∧ (w.l.e i).iD = id ∧ j < (w.l.e i).l.n ∧ (getE w id q).1 = (w.l.e i).l.c j ∧ ((w.l.e i).l.c j).kind = q := by
  unfold getE at *
  cases hf : (findE w id).2 with
  | false => rw [hf] at h; cases h
  | true =>
    rw [hf] at h
    obtain ⟨h1, h2, h3⟩ := find_hit hf
    have h : (getC (w.l.e (findE w id).1).l q).2 = true := h
    unfold getC at h
    cases hh : hitB (fun j => ((w.l.e (findE w id).1).l.c j).kind) (w.l.e (findE w id).1).l.n q with
    | false => rw [hh] at h; cases h
    | true =>
      obtain ⟨h4, h5⟩ := hitB_iff.1 hh
      refine ⟨h1, _, _, h2, h3, h4, ?_, h5⟩
      show (getC (w.l.e (findE w id).1).l q).1 = _
      unfold getC
      rw [hh]
theorem get_pos {w : Wor} {id : Int} (h : (getE w id 1).2 = true) : -1048576 ≤ (getE w id 1).1.v0 ∧ (getE w id 1).1.v0 ≤ 1048576 ∧ -1048576 ≤ (getE w id 1).1.v1 ∧ (getE w id 1).1.v1 ≤ 1048576 := by
  obtain ⟨hv, i, j, h1, h2, h3, h4, h5⟩ := get_hit h
  have hf := ((hv.right i h1).fits j h3).2.2.1 h5
  rw [h4]
  exact ⟨hf.1, hf.2.1, hf.2.2.1, hf.2.2.2.1⟩
theorem ixI_neg {g : Nat → Bool} {n : Nat} (h : ixI g n = -1) : ∀ i, i < n → g i = false := by
  unfold ixI at h
  have hle := ixN_le (g := g) (r := n) (k := 0)
  by_cases c : ixN g 0 n < n
  · rw [decide_eq_true c] at h
    have h : ((ixN g 0 n : Nat) : Int) = -1 := h
    omega
  · exact fun i hi => ixN_no (r := n) (Nat.zero_le i) (by omega)
theorem ixI_pos {g : Nat → Bool} {n : Nat} (h : ¬ ixI g n = -1) : ∃ k, k < n ∧ ixI g n = k ∧ g k = true ∧ ∀ i, i < k → g i = false := by
  have hle := ixN_le (g := g) (r := n) (k := 0)
  by_cases c : ixN g 0 n < n
  · exact ⟨ixN g 0 n, c, ixI_yes rfl c, ixN_hit (r := n) (by omega), fun i hi => ixN_no (r := n) (Nat.zero_le i) hi⟩
  · exact absurd (ixI_none (by omega)) h
end Go.Proofs.YtjdohgcolhpegaaGreatDoor
