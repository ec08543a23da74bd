/- CastCrossed: the walk. -/
import Derived.Test.YtcbpajkgmpibgaaC25
namespace Go.Proofs.Ytcbpajkgmpibgaa
open Go.RowKit

def arF (F : Nat → Form) (i : Nat) : Area := arB (madeB i (F i))
def crs1 (m : Nat) (F : Nat → Form) (x y dx dy : Int) : Cut := ⟨Nat, fun k => k ≤ m,
  fun k => ⟨[sl 1 (.v (.int .i8 x)), sl 2 (.v (.int .i8 y)), sl 3 (.v (.int .i8 dx)), sl 4 (.v (.int .i8 dy)), sl 11 (.g 0 1 4 0 k), sl 41 (.rs 9 m fun i => (madeB i (F i)).cells), sl 42 (.v (.int .i64 m)), sl 43 (.v (.int .i64 k))], [(0, .lst 1 4 k (fun i => (arF F i).cells) 54)], 2, 0, [], []⟩, fun k => m - k⟩
def crs2 (m : Nat) (F : Nat → Form) (x y dx dy : Int) : Cut := ⟨Unit, fun _ => True,
  fun _ => ⟨[sl 1 (.v (.int .i8 x)), sl 2 (.v (.int .i8 y)), sl 3 (.v (.int .i8 dx)), sl 4 (.v (.int .i8 dy)), sl 11 (.rs 4 m fun i => (arF F i).cells)], [], 0, 0, [], []⟩, fun _ => 0⟩
def crsH (p q v : Vec) : Heap := [(0, .lay p.cells 28), (1, .lay q.cells 28), (2, .lay v.cells 28)]
def lS (l : List Int) : SV := .rs 1 l.length (cellsI l)
def crsS (m : Nat) (F : Nat → Form) (p q : Vec) (k : Nat) : List (Nat × Slot) := [sl 11 (.rs 4 m fun i => (arF F i).cells), sl 16 (.p 0 0), sl 17 (.p 1 0), sl 18 (.p 2 0), sl 19 (lS (insideE m (arF F) p)), sl 21 (lS (insideE m (arF F) q)), sl 23 (lS (crossE 0 m (arF F) p q)), sl 24 (lS (crossE 1 m (arF F) p q)), sl 25 (lS (crossE 2 m (arF F) p q)), sl 31 (.v (.func (.func 26) #[] #[])), sl 124 (.rs 4 m fun i => (arF F i).cells), sl 125 (.v (.int .i64 m)), sl 126 (.v (.int .i64 k))]
def crs3 (m : Nat) (F : Nat → Form) (p q v : Vec) : Cut := ⟨Nat, fun k => k ≤ m, fun k => ⟨crsS m F p q k, crsH p q v, 3, 0, [], []⟩, fun k => m - k⟩
def crs4 (m : Nat) (F : Nat → Form) (p q v : Vec) (k : Nat) : Cut := ⟨Nat, fun j => j ≤ 21, fun j => ⟨sl 32 (.v (.int .i64 k)) :: sl 35 (.v (.int .i64 j)) :: crsS m F p q k, crsH p q v, 3, 0, [], []⟩, fun j => 21 - j⟩
set_option maxHeartbeats 20000000 in
set_option maxRecDepth 8000 in
theorem crossed_walk (n : Nat) (F : Nat → Form) (x y dx dy : Int) (hn : (n : Int) ≤ 9223372036854775807) (hF : ∀ i, i < madeN n → (F i).Ok) (hx : I8 x) (hy : I8 y) (hdx : I8 dx) (hdy : I8 dy) : evFn (C := cx) [conAwake, conMade, conEnds, conMeets, conAt, conBounds, conInsd, conCrs, conSme, conMem, conBox] [] 0 ⟨[], [10], [5, 19, 29], 0⟩ Try.f5 ((rds5 rdForms (rdI .i8) (rdI .i8) (rdI .i8) (rdI .i8)).enc ((n, F), x, y, dx, dy)) fun v H _ => resOut (.bl true) H v := by
  have hN := near_ends (dx := dx) (dy := dy) hx hy
  obtain ⟨m, hm⟩ : ∃ m, m = madeN n := ⟨_, rfl⟩
  have hm20 : m ≤ 20 := by rw [hm]; exact madeN_le n
  have hsm : ∀ i, i < m → (madeB i (F i)).Sm := fun i hi => madeB_Sm (hF i (by omega)) (by omega)
  refine Exists.intro (crs2 m F x y dx dy) ?_
  refine And.intro ?_ ?_
  · refine And.intro ⟨fun _ _ => trivial, hn, hF⟩ ?_
    refine Exists.intro (crs1 m F x y dx dy) ?_
    refine And.intro ?_ ?_
    · refine ⟨(0 : Nat), [], [.slot2 11 4 54], trivial, Nat.zero_le _, ?_⟩
      subst hm
      repeat' (first | (refine And.intro ?_ ?_) | (intro _) | exact rfl)
      all_goals exact absurd ‹_ < 0› (Nat.not_lt_zero _)
    refine fun (k : Nat) (hk : k ≤ m) => ?_
    refine And.intro (fun hb => ?_) (fun hb => ?_)
    · have hb : (k : Int) < m := of_decide_eq_true hb
      refine And.intro ⟨by omega, by omega⟩ ?_
      refine And.intro ⟨(⟨Nat.le_trans (by omega : k + 1 ≤ 1000) (by decide), by omega⟩ : fitO (k + 1) 32), fun _ _ _ => ⟨rfl, rfl, rfl, rfl, trivial⟩⟩ ?_
      refine And.intro (by unfold I64; omega : I64 ((k : Int) + 1)) ?_
      refine ⟨k + 1, [(1, 6)], [], (by show m - (k + 1) < m - k; omega), (by omega : k + 1 ≤ m), ?_⟩
      repeat' (first | (refine And.intro ?_ ?_) | (intro _) | exact rfl)
      · exact bifP (f := fun i => (arF F i).lowX) ‹_› rfl
      · exact bifP (f := fun i => (arF F i).lowY) ‹_› rfl
      · exact bifP (f := fun i => (arF F i).highX) ‹_› rfl
      · exact bifP (f := fun i => (arF F i).highY) ‹_› rfl
    · have hb : ¬ (k : Int) < m := of_decide_eq_false hb
      obtain rfl : k = m := by omega
      refine ⟨(), [], [.freeze 0], trivial, trivial, ?_⟩
      repeat' (first | (refine And.intro ?_ ?_) | (intro _) | exact rfl)
      all_goals first | (rw [Nat.zero_add]; done) | (rw [Nat.zero_add]; exact rfl)
  refine fun (_ : Unit) (_ : True) => ?_
  have aok : ∀ i, i < m → (arF F i).ok = true := fun i hi => arB_ok (hsm i hi)
  have ip := hN.inP
  have iq := hN.inV (n := 20) (by decide)
  have hs := hN.short (n := 20) (by decide)
  have hs' := hN.short' (n := 20) (by decide)
  obtain ⟨r1, l1⟩ := inside_ok (n := m) (F := arF F) (by omega) aok ip
  obtain ⟨r2, l2⟩ := inside_ok (n := m) (F := arF F) (by omega) aok iq
  obtain ⟨c1, d1⟩ := cross_ok (n := m) (F := arF F) (by omega) aok ip iq hs
  obtain ⟨c2, d2⟩ := cross_ok (n := m) (F := arF F) (by omega) aok iq ip hs'
  have m6 : (m : Int) ≤ 1000000 := by omega
  have ll : ∀ (g : Nat → Bool) (l : List Int), l = filtL g m → (l.length : Int) ≤ 1000000 := fun g l e => by
    have := filtL_len (g := g) m
    rw [e]; omega
  have L1 := ll _ _ l1
  have L2 := ll _ _ l2
  have D0 := ll _ _ (d1 0)
  have D1 := ll _ _ (d1 1)
  have D2 := ll _ _ (d1 2)
  have E0 := ll _ _ (d2 0)
  have E1 := ll _ _ (d2 1)
  have E2 := ll _ _ (d2 2)
  refine And.intro ⟨hx, hy, hdx, hdy, (⟨by decide, by decide⟩ : (0 : Int) ≤ 20 ∧ (20 : Int) ≤ 100)⟩ ?_
  refine And.intro ⟨fun _ _ => trivial, m6⟩ ?_
  refine And.intro ⟨fun _ _ => trivial, m6⟩ ?_
  refine And.intro ⟨fun _ _ => trivial, m6⟩ ?_
  refine And.intro ⟨fun _ _ => trivial, m6⟩ ?_
  refine And.intro (i64_0 (by rw [r1, r2]; rfl) : I64 (insideR m (arF F) (begV x y) + insideR m (arF F) (goV (begV x y) (stepV dx dy) 20))) ?_
  refine And.intro (i64_0 (by rw [r1, r2, c1]; rfl) : I64 (insideR m (arF F) (begV x y) + insideR m (arF F) (goV (begV x y) (stepV dx dy) 20) + crossR m (arF F) (begV x y) (goV (begV x y) (stepV dx dy) 20))) ?_
  refine And.intro (i64_0 (by rw [r1, r2, c1, c2]; rfl) : I64 (insideR m (arF F) (begV x y) + insideR m (arF F) (goV (begV x y) (stepV dx dy) 20) + crossR m (arF F) (begV x y) (goV (begV x y) (stepV dx dy) 20) + crossR m (arF F) (goV (begV x y) (stepV dx dy) 20) (begV x y))) ?_
  refine And.intro (fun _ => ⟨fun _ _ => trivial, fun _ _ => trivial, D0⟩) ?_
  refine And.intro (fun _ => ⟨fun _ _ => trivial, fun _ _ => trivial, D1⟩) ?_
  refine And.intro (fun _ => ⟨fun _ _ => trivial, fun _ _ => trivial, D2⟩) ?_
  obtain ⟨v1, v2, v3⟩ := cross_rev (n := m) (F := arF F) (p := (begV x y)) (q := (goV (begV x y) (stepV dx dy) 20))
  refine And.intro (fun hc => ?_) (fun hc => ?_)
  · have hc : (decide (¬ (insideR m (arF F) (begV x y) + insideR m (arF F) (goV (begV x y) (stepV dx dy) 20) + crossR m (arF F) (begV x y) (goV (begV x y) (stepV dx dy) 20) + crossR m (arF F) (goV (begV x y) (stepV dx dy) 20) (begV x y)) = 0) || !sameF (lF (crossE 0 m (arF F) (begV x y) (goV (begV x y) (stepV dx dy) 20))) (lF (crossE 1 m (arF F) (goV (begV x y) (stepV dx dy) 20) (begV x y))) || !sameF (lF (crossE 1 m (arF F) (begV x y) (goV (begV x y) (stepV dx dy) 20))) (lF (crossE 0 m (arF F) (goV (begV x y) (stepV dx dy) 20) (begV x y))) || !sameF (lF (crossE 2 m (arF F) (begV x y) (goV (begV x y) (stepV dx dy) 20))) (lF (crossE 2 m (arF F) (goV (begV x y) (stepV dx dy) 20) (begV x y)))) = true := hc
    rw [r1, r2, c1, c2, d1, d1, d1, d2, d2, d2, v1, v2, v3, sameF_refl, sameF_refl, sameF_refl] at hc
    exact (Bool.false_ne_true hc).elim
  clear hc v1 v2 v3 E0 E1 E2 c2 d2
  refine Exists.intro (crs3 m F (begV x y) (goV (begV x y) (stepV dx dy) 20) (stepV dx dy)) ?_
  refine And.intro ?_ ?_
  · refine ⟨(0 : Nat), [], [], trivial, Nat.zero_le _, ?_⟩
    repeat' (first | (refine And.intro ?_ ?_) | (intro _) | exact rfl)
  refine fun (k : Nat) (hk : k ≤ m) => ?_
  refine And.intro (fun hb => ?_) (fun hb => ?_)
  rotate_left
  · exact rfl
  have hb : (k : Int) < m := of_decide_eq_true hb
  have hkm : k < m := by omega
  have sk := hsm k hkm
  -- what the lists have
  have M1 : memF (lF (insideE m (arF F) (begV x y))) k = hasA (arF F k) (begV x y) := by rw [l1]; exact memF_filt hkm
  have M2 : memF (lF (insideE m (arF F) (goV (begV x y) (stepV dx dy) 20))) k = hasA (arF F k) (goV (begV x y) (stepV dx dy) 20) := by rw [l2]; exact memF_filt hkm
  have N0 : memF (lF (crossE 0 m (arF F) (begV x y) (goV (begV x y) (stepV dx dy) 20))) k = (hasA (arF F k) (goV (begV x y) (stepV dx dy) 20) && !hasA (arF F k) (begV x y)) := by rw [d1]; exact memF_filt hkm
  have N1 : memF (lF (crossE 1 m (arF F) (begV x y) (goV (begV x y) (stepV dx dy) 20))) k = (hasA (arF F k) (begV x y) && !hasA (arF F k) (goV (begV x y) (stepV dx dy) 20)) := by rw [d1]; exact memF_filt hkm
  have N2 : memF (lF (crossE 2 m (arF F) (begV x y) (goV (begV x y) (stepV dx dy) 20))) k = (entA (arF F k) (begV x y) (goV (begV x y) (stepV dx dy) 20) && !hasA (arF F k) (begV x y) && !hasA (arF F k) (goV (begV x y) (stepV dx dy) 20)) := by rw [d1]; exact memF_filt hkm
  refine And.intro ⟨by omega, by omega⟩ ?_
  refine And.intro ⟨fun _ _ => trivial, D0⟩ ?_
  refine And.intro ⟨fun _ _ => trivial, L2⟩ ?_
  refine And.intro (fun _ => ⟨fun _ _ => trivial, L1⟩) ?_
  refine And.intro (fun _ => ⟨fun _ _ => trivial, D1⟩) ?_
  refine And.intro (fun _ => ⟨fun _ _ => trivial, L1⟩) ?_
  refine And.intro (fun _ _ => ⟨fun _ _ => trivial, L2⟩) ?_
  refine And.intro (fun _ => ⟨fun _ _ => trivial, D2⟩) ?_
  refine And.intro (fun _ _ => ⟨fun _ _ => trivial, L1⟩) ?_
  refine And.intro (fun _ _ _ => ⟨fun _ _ => trivial, L2⟩) ?_
  refine And.intro (fun hc => ?_) (fun hc => ?_)
  · have hc : ((memF (lF (crossE 0 m (arF F) (begV x y) (goV (begV x y) (stepV dx dy) 20))) k != (memF (lF (insideE m (arF F) (goV (begV x y) (stepV dx dy) 20))) k && !memF (lF (insideE m (arF F) (begV x y))) k)) || (memF (lF (crossE 1 m (arF F) (begV x y) (goV (begV x y) (stepV dx dy) 20))) k != (memF (lF (insideE m (arF F) (begV x y))) k && !memF (lF (insideE m (arF F) (goV (begV x y) (stepV dx dy) 20))) k)) || (memF (lF (crossE 2 m (arF F) (begV x y) (goV (begV x y) (stepV dx dy) 20))) k && (memF (lF (insideE m (arF F) (begV x y))) k || memF (lF (insideE m (arF F) (goV (begV x y) (stepV dx dy) 20))) k))) = true := hc
    rw [M1, M2, N0, N1, N2] at hc
    revert hc
    cases hasA (arF F k) (begV x y) <;> cases hasA (arF F k) (goV (begV x y) (stepV dx dy) 20) <;> cases entA (arF F k) (begV x y) (goV (begV x y) (stepV dx dy) 20) <;> exact fun h => (Bool.false_ne_true h).elim
  clear hc
  refine And.intro ⟨fun _ _ => trivial, L1⟩ ?_
  refine And.intro (fun hc => ?_) (fun hc => ?_)
  · have hc : (memF (lF (insideE m (arF F) (begV x y))) k != hasA (arF F k) (begV x y)) = true := hc
    rw [M1] at hc
    simp at hc
  clear hc
  obtain ⟨b, hbb⟩ : ∃ b, b = madeB k (F k) := ⟨_, rfl⟩
  rw [← hbb] at sk
  obtain ⟨e1, e2⟩ := low_eq sk.ok
  have b2 := sk.x
  have b3 := sk.y
  have b4 := sk.w
  have b5 := sk.h
  have ea : arF F k = ⟨b.posX - b.w, b.posY - b.h, b.posX + b.w, b.posY + b.h⟩ := by unfold arF arB; rw [← hbb, e1, e2]
  have q1 : ((arF F k).lowX + (arF F k).highX).tdiv 2 = b.posX := by rw [ea, show b.posX - b.w + (b.posX + b.w) = b.posX * 2 by omega]; exact Int.mul_tdiv_cancel _ (by decide)
  have q2 : ((arF F k).lowY + (arF F k).highY).tdiv 2 = b.posY := by rw [ea, show b.posY - b.h + (b.posY + b.h) = b.posY * 2 by omega]; exact Int.mul_tdiv_cancel _ (by decide)
  have q3 : ((arF F k).highX - (arF F k).lowX).tdiv 2 = b.w := by rw [ea, show b.posX + b.w - (b.posX - b.w) = b.w * 2 by omega]; exact Int.mul_tdiv_cancel _ (by decide)
  have q4 : ((arF F k).highY - (arF F k).lowY).tdiv 2 = b.h := by rw [ea, show b.posY + b.h - (b.posY - b.h) = b.h * 2 by omega]; exact Int.mul_tdiv_cancel _ (by decide)
  have a1 : (arF F k).lowX = b.posX - b.w := by rw [ea]
  have a2 : (arF F k).lowY = b.posY - b.h := by rw [ea]
  have a3 : (arF F k).highX = b.posX + b.w := by rw [ea]
  have a4 : (arF F k).highY = b.posY + b.h := by rw [ea]
  refine And.intro (by unfold I64; omega : I64 ((arF F k).lowX + (arF F k).highX)) ?_
  refine And.intro (by unfold I64; omega : I64 (((arF F k).lowX + (arF F k).highX).tdiv 2)) ?_
  refine And.intro (by unfold I64; omega : I64 ((arF F k).lowY + (arF F k).highY)) ?_
  refine And.intro (by unfold I64; omega : I64 (((arF F k).lowY + (arF F k).highY).tdiv 2)) ?_
  refine And.intro (by unfold I64; omega : I64 ((arF F k).highX - (arF F k).lowX)) ?_
  refine And.intro (by unfold I64; omega : I64 (((arF F k).highX - (arF F k).lowX).tdiv 2)) ?_
  refine And.intro (by unfold I64; omega : I64 ((arF F k).highY - (arF F k).lowY)) ?_
  refine And.intro (by unfold I64; omega : I64 (((arF F k).highY - (arF F k).lowY).tdiv 2)) ?_
  refine And.intro ⟨fun _ _ => trivial, L1⟩ ?_
  refine And.intro (fun _ => ⟨fun _ _ => trivial, L2⟩) ?_
  refine And.intro (fun _ => ⟨fun _ _ => trivial, D2⟩) ?_
  have hz : (0 : Int) < 20 := by decide
  have pp : hasA (arF F k) (begV x y) = true → entA (arF F k) (begV x y) (goV (begV x y) (stepV dx dy) 20) = true := fun h => has_entA (i := 0) hz (by decide) (by decide) (by rw [goV_0]; exact h)
  have qq : hasA (arF F k) (goV (begV x y) (stepV dx dy) 20) = true → entA (arF F k) (begV x y) (goV (begV x y) (stepV dx dy) 20) = true := fun h => has_entA (i := 20) hz (by decide) (by decide) h
  have any : (hasA (arF F k) (begV x y) || hasA (arF F k) (goV (begV x y) (stepV dx dy) 20) || (entA (arF F k) (begV x y) (goV (begV x y) (stepV dx dy) 20) && !hasA (arF F k) (begV x y) && !hasA (arF F k) (goV (begV x y) (stepV dx dy) 20))) = entA (arF F k) (begV x y) (goV (begV x y) (stepV dx dy) 20) := by
    revert pp qq
    cases hasA (arF F k) (begV x y) <;> cases hasA (arF F k) (goV (begV x y) (stepV dx dy) 20) <;> cases entA (arF F k) (begV x y) (goV (begV x y) (stepV dx dy) 20) <;> intro pp qq <;> first | rfl | exact absurd (pp rfl) (by decide) | exact absurd (qq rfl) (by decide)
  refine And.intro (fun hc => ?_) (fun hc => ?_)
  · have hc : (meetsB (boxB 1 (((arF F k).lowX + (arF F k).highX).tdiv 2) (((arF F k).lowY + (arF F k).highY).tdiv 2) (((arF F k).highX - (arF F k).lowX).tdiv 2) (((arF F k).highY - (arF F k).lowY).tdiv 2)) (begV x y) (goV (begV x y) (stepV dx dy) 20) != (memF (lF (insideE m (arF F) (begV x y))) k || memF (lF (insideE m (arF F) (goV (begV x y) (stepV dx dy) 20))) k || memF (lF (crossE 2 m (arF F) (begV x y) (goV (begV x y) (stepV dx dy) 20))) k)) = true := hc
    rw [q1, q2, q3, q4, box_meets sk ip iq hs, M1, M2, N2, any, show arB b = arF F k by unfold arF; rw [hbb]] at hc
    simp at hc
  clear hc
  refine Exists.intro (crs4 m F (begV x y) (goV (begV x y) (stepV dx dy) 20) (stepV dx dy) k) ?_
  refine And.intro ?_ ?_
  · refine ⟨(0 : Nat), [], [], trivial, Nat.zero_le _, ?_⟩
    repeat' (first | (refine And.intro ?_ ?_) | (intro _) | exact rfl)
  refine fun (j : Nat) (hj : j ≤ 21) => ?_
  refine And.intro (fun hb2 => ?_) (fun hb2 => ?_)
  · have hb2 : (j : Int) ≤ 20 := of_decide_eq_true hb2
    obtain ⟨g1, g2, g3, g4⟩ := hN.go (n := j) (by omega)
    have ij := hN.inV (n := j) (by omega)
    refine And.intro (by unfold I64; omega : I64 ((k : Int) + 1)) ?_
    refine And.intro (⟨by omega, by omega, by omega⟩ : (0 : Int) ≤ k ∧ (k : Int) ≤ k + 1 ∧ (k : Int) + 1 ≤ m) ?_
    refine And.intro (by unfold I64; omega : I64 (j * (stepV dx dy).x)) ?_
    refine And.intro (by unfold I64; simp only [goV] at g1; omega : I64 ((begV x y).x + j * (stepV dx dy).x)) ?_
    refine And.intro (by unfold I64; omega : I64 (j * (stepV dx dy).y)) ?_
    refine And.intro (by unfold I64; simp only [goV] at g2; omega : I64 ((begV x y).y + j * (stepV dx dy).y)) ?_
    obtain ⟨w, hw⟩ : ∃ w, w = ((k : Int) + 1).toNat - (k : Int).toNat := ⟨_, rfl⟩
    have hw1 : w = 1 := by omega
    have e0 : ∀ i, i < w → arF F ((k : Int).toNat + i) = arF F k := fun i hi => by rw [show (k : Int).toNat + i = k by omega]
    refine And.intro ⟨fun _ _ => trivial, (by omega : ((((k : Int) + 1).toNat - (k : Int).toNat : Nat) : Int) ≤ 1000000)⟩ ?_
    obtain ⟨y1, y2⟩ := inside_ok (n := w) (F := fun i => arF F ((k : Int).toNat + i)) (p := goV (begV x y) (stepV dx dy) j) (by omega) (fun i hi => by rw [e0 i hi]; exact aok k hkm) ij
    rw [hw] at y1 y2
    refine And.intro (fun _ _ => ⟨fun _ _ => trivial, L1⟩) ?_
    refine And.intro (fun _ _ => ⟨fun _ _ => trivial, L2⟩) ?_
    refine And.intro (fun _ _ => ⟨fun _ _ => trivial, D2⟩) ?_
    refine And.intro (fun hc => ?_) (fun hc => ?_)
    · have hc : (decide (¬ insideR (((k : Int) + 1).toNat - (k : Int).toNat) (fun i => arF F ((k : Int).toNat + i)) (goV (begV x y) (stepV dx dy) j) = 0) || (decide (0 < ((insideE (((k : Int) + 1).toNat - (k : Int).toNat) (fun i => arF F ((k : Int).toNat + i)) (goV (begV x y) (stepV dx dy) j)).length : Int)) && !memF (lF (insideE m (arF F) (begV x y))) k && !memF (lF (insideE m (arF F) (goV (begV x y) (stepV dx dy) 20))) k && !memF (lF (crossE 2 m (arF F) (begV x y) (goV (begV x y) (stepV dx dy) 20))) k)) = true := hc
      exfalso
      rw [y1, y2, M1, M2, N2, ← hw, hw1] at hc
      have hh : (filtL (fun i => hasA (arF F ((k : Int).toNat + i)) (goV (begV x y) (stepV dx dy) j)) 1) = if hasA (arF F k) (goV (begV x y) (stepV dx dy) j) = true then [0] else [] := by
        simp only [filtL]
        rw [show (k : Int).toNat + 0 = k by omega]
        cases hasA (arF F k) (goV (begV x y) (stepV dx dy) j) <;> rfl
      rw [hh] at hc
      cases h0 : hasA (arF F k) (goV (begV x y) (stepV dx dy) j) with
      | false => rw [h0] at hc; exact Bool.false_ne_true hc
      | true =>
        have := has_entA (i := j) hz (by omega) hb2 h0
        rw [← any] at this
        rw [h0] at hc
        revert hc this
        cases hasA (arF F k) (begV x y) <;> cases hasA (arF F k) (goV (begV x y) (stepV dx dy) 20) <;> cases entA (arF F k) (begV x y) (goV (begV x y) (stepV dx dy) 20) <;> intro hc this <;> first | exact Bool.false_ne_true hc | exact Bool.false_ne_true this
    · clear hc
      refine And.intro (by unfold I64; omega : I64 ((j : Int) + 1)) ?_
      refine ⟨j + 1, [], [], (by show 21 - (j + 1) < 21 - j; omega), (by omega : j + 1 ≤ 21), ?_⟩
      repeat' (first | (refine And.intro ?_ ?_) | (intro _) | exact rfl)
  · clear hb2
    refine And.intro (by unfold I64; omega : I64 ((k : Int) + 1)) ?_
    refine ⟨k + 1, [], [], (by show m - (k + 1) < m - k; omega), (by omega : k + 1 ≤ m), ?_⟩
    repeat' (first | (refine And.intro ?_ ?_) | (intro _) | exact rfl)
end Go.Proofs.Ytcbpajkgmpibgaa
