/- Natural numbers: differences. Natural numbers: products with a word. Natural numbers: a product with a word is added in place. -/
import Derived.Test.YtcojfohjdibjjaaGreatDoorP1
namespace Go.Proofs.YtcojfohjdibjjaaGreatDoor
open Go.RowKit

/-- What is borrowed from place i; the words of a difference. -/
def subC (f g : Nat → Int) : Nat → Int
  | 0 => 0
  | i + 1 => brw (f i) (g i + subC f g i)
def subL (f g : Nat → Int) (i : Nat) : Int := (f i - g i - subC f g i) % 18446744073709551616
theorem subC_rng {f g : Nat → Int} : ∀ {i : Nat}, 0 ≤ subC f g i ∧ subC f g i ≤ 1
  | 0 => by simp [subC]
  | i + 1 => brw_rng _ _
theorem subL_words (f g : Nat → Int) (n : Nat) : Words (subL f g) n := fun i _ => ⟨Int.emod_nonneg _ (by decide), Int.emod_lt_of_pos _ (by decide)⟩
theorem borrow_step {x y : Int} (hx : 0 ≤ x ∧ x < 18446744073709551616) (hy : 0 ≤ y ∧ y ≤ 18446744073709551616) : (x - y) % 18446744073709551616 = x - y + 18446744073709551616 * brw x y := by
  unfold brw; split <;> omega
theorem sub_val {f g : Nat → Int} {n : Nat} (hf : Words f n) (hg : Words g n) : ∀ i, i ≤ n → valN (subL f g) i = valN f i - valN g i + subC f g i * 18446744073709551616 ^ i
  | 0, _ => by simp [valN, subC]
  | i + 1, h => by
    have ih := sub_val hf hg i (by omega)
    have h1 := hf i (by omega)
    have h2 := hg i (by omega)
    have h3 := subC_rng (f := f) (g := g) (i := i)
    have e := borrow_step h1 (y := g i + subC f g i) (by omega)
    have e2 : subL f g i = f i - g i - subC f g i + 18446744073709551616 * brw (f i) (g i + subC f g i) := by
      unfold subL; rw [← Int.sub_sub] at e; exact e
    have e3 : subL f g i * 18446744073709551616 ^ i = (f i - g i - subC f g i + 18446744073709551616 * brw (f i) (g i + subC f g i)) * 18446744073709551616 ^ i := by rw [e2]
    rw [pw_succ]
    simp only [valN, subC]
    generalize (18446744073709551616 : Int) ^ i = P at *
    generalize brw (f i) (g i + subC f g i) = B at *
    grind
theorem subC_congr {f g f' g' : Nat → Int} : ∀ {i : Nat}, (∀ k, k < i → f' k = f k ∧ g' k = g k) → subC f' g' i = subC f g i
  | 0, _ => rfl
  | i + 1, h => by
    simp only [subC]
    rw [subC_congr (fun k hk => h k (by omega)), (h i (by omega)).1, (h i (by omega)).2]
theorem brw_zero {x : Int} (h : 0 ≤ x) : brw x 0 = 0 := by unfold brw; rw [if_neg (by omega)]
theorem subC_stop {f g : Nat → Int} {n m : Nat} (hf : Words f m) (hz : ∀ j, n ≤ j → g j = 0) (h0 : subC f g n = 0) : ∀ d, n + d ≤ m → subC f g (n + d) = 0
  | 0, _ => h0
  | d + 1, h => by
    have ih := subC_stop hf hz h0 d (by omega)
    have h2 := hf (n + d) (by omega)
    show brw (f (n + d)) (g (n + d) + subC f g (n + d)) = 0
    rw [ih, hz (n + d) (by omega)]
    exact brw_zero h2.1
theorem subL_stop {f g : Nat → Int} {n m j : Nat} (hf : Words f m) (hz : ∀ j, n ≤ j → g j = 0) (h0 : subC f g n = 0) (hj : n ≤ j) (hm : j < m) : subL f g j = f j := by
  obtain ⟨d, rfl⟩ : ∃ d, j = n + d := ⟨j - n, by omega⟩
  have h1 := subC_stop hf hz h0 d (by omega)
  have h2 := hf (n + d) hm
  unfold subL
  rw [h1, hz (n + d) (by omega)]
  omega
def svCut (N n : Nat) (f g : Nat → Int) : Cut := ⟨Nat, fun i => i ≤ n,
  fun i => ⟨[sl 0 (.g 0 0 1 0 n), sl 1 (Fam.mk n f).ws, sl 2 (Fam.mk n g).ws, sl 6 (u64 (subC f g i)), sl 24 (.v (.int .i64 n)), sl 25 (.v (.int .i64 i))], wordH N (mix i (subL f g) (fun _ => 0)), 1, 0, [], []⟩, fun i => n - i⟩
def swCut (m n : Nat) (f A : Nat → Int) (C : Nat → Int) : Cut := ⟨Nat, fun i => (1 ≤ i ∧ i ≤ m - n) ∧ C (n + i) = 1,
  fun i => ⟨[sl 0 (.g 0 0 1 n (m - n)), sl 1 (Fam.mk (m - n) fun j => f (n + j)).ws, sl 6 (.il .u64 0), sl 9 (.v (.int .i64 i))], wordH m (mix (n + i) A (fun _ => 0)), 1, 0, [], []⟩, fun i => m - n - i⟩
/-- Ahead of the subtraction: room for the words. -/
def subBeg (f g : Fam) : Cut := ⟨Unit, fun _ => True,
  fun _ => ⟨[sl 0 (.g 0 0 1 0 f.n), sl 1 f.ws, sl 2 g.ws, sl 6 (.v (.slice none 0 0)), sl 7 (.v (.int .i64 f.n)), sl 8 (.v (.int .i64 g.n))], wordH f.n (fun _ => 0), 1, 0, [], []⟩, fun _ => 0⟩
def subEnd (m : Nat) (f g : Nat → Int) : Cut := ⟨Unit, fun _ => True,
  fun _ => ⟨[sl 0 (.g 0 0 1 0 m), sl 6 (.v (.slice none 0 0)), sl 9 (u64 (subC f g m))], wordH m (mix m (subL f g) (fun _ => 0)), 1, 0, [], []⟩, fun _ => 0⟩
def subHow : How := ⟨[100010, 80012], [10, 13], [], 0⟩
set_option maxHeartbeats 4000000 in
set_option maxRecDepth 8000 in
theorem NSub_walk : ∀ a, conj ((fun (a : SV × Fam × Fam) => [a.1 = .v (.slice none 0 0), a.2.1.Nat, a.2.2.Nat, a.2.2.val ≤ a.2.1.val]) a) → evFn (C := cx) [conAdd, conSub, conNSet] natI 1 subHow Tryz.f80 ((rds3 rdX (rdF .u64) (rdF .u64)).enc a) fun v H _ => resOut (natF (a.2.1.val - a.2.2.val)).ws H v := by
  intro ⟨z, f, g⟩ ⟨hz, hf, hg, hn⟩
  replace hz : z = .v (.slice none 0 0) := hz
  subst hz
  replace hf : f.Nat := hf
  replace hg : g.Nat := hg
  replace hv : g.val ≤ f.val := hn
  have hn : g.n ≤ f.n := by
    by_cases q : g.n ≤ f.n
    · exact q
    · have q2 : f.val < g.val := nrm_lt hf.k hg.k (by omega)
      omega
  have fn := hf.n
  have gn := hg.n
  refine And.intro (fun h1 => ?_) (fun _ => ?_)
  · have h1 : (f.n : Int) < g.n := of_decide_eq_true h1
    omega
  refine And.intro (fun h2 => ?_) (fun h2 => ?_)
  · have h2 : (f.n : Int) = 0 := of_decide_eq_true h2
    have e1 : f.n = 0 := by omega
    have e2 : g.n = 0 := by omega
    have e3 : lenI (f.val - g.val) = 0 := by unfold Fam.val; rw [e1, e2]; rfl
    first | exact e3 | exact e3.symm
  have h2 : ¬ (f.n : Int) = 0 := of_decide_eq_false h2
  refine And.intro (fun h3 => ?_) (fun h3 => ?_)
  · have h3 : (g.n : Int) = 0 := of_decide_eq_true h3
    refine And.intro ⟨fun i _ => trivial, rfl, hf, by show 0 < f.n; omega⟩ ?_
    have ev : f.val - g.val = f.val := by
      have : g.n = 0 := by omega
      unfold Fam.val; rw [this]; simp [valN]
    have hk := hf.k.word (v := f.val - g.val) ev.symm
    exact And.intro hk.1.symm (fun i hi => (hk.2 i hi).symm)
  have h3 : ¬ (g.n : Int) = 0 := of_decide_eq_false h3
  refine Exists.intro (subBeg f g) ?_
  refine And.intro ?_ ?_
  · refine And.intro (fun h4 => ?_) (fun _ => ?_)
    · have h4 : (f.n : Int) ≤ 0 := of_decide_eq_true h4
      omega
    refine And.intro (fun h4 => ?_) (fun h4 => ?_)
    · have h4 : (f.n : Int) = 1 := of_decide_eq_true h4
      have h4' : f.n = 1 := by omega
      refine And.intro (⟨by omega, by omega, fitW (by decide)⟩ : (0 : Int) ≤ 1 ∧ (1 : Int) ≤ 1 ∧ fitO (Int.toNat 1) 8) ?_
      refine ⟨(), [], [], trivial, trivial, ?_⟩
      repeat' (first | exact rfl | exact h4' | (refine And.intro ?_ ?_) | (intro _))
    · have h4 : ¬ (f.n : Int) = 1 := of_decide_eq_false h4
      refine And.intro (by constructor <;> omega : -9223372036854775808 ≤ (f.n : Int) + 4 ∧ (f.n : Int) + 4 ≤ 9223372036854775807) ?_
      refine And.intro (⟨by omega, by omega, fitW (by omega)⟩ : (0 : Int) ≤ f.n ∧ (f.n : Int) ≤ f.n + 4 ∧ fitO ((f.n : Int) + 4).toNat 8) ?_
      refine ⟨(), [], [], trivial, trivial, ?_⟩
      repeat' (first | exact rfl | (refine And.intro ?_ ?_) | (intro _))
  refine fun _ _ => ?_
  refine And.intro (⟨by omega, by omega⟩ : (0 : Int) ≤ g.n ∧ (g.n : Int) ≤ f.n) ?_
  refine And.intro (⟨by omega, by omega⟩ : (0 : Int) ≤ g.n ∧ (g.n : Int) ≤ f.n) ?_
  refine And.intro (⟨by omega, by omega⟩ : (0 : Int) ≤ g.n ∧ (g.n : Int) ≤ g.n) ?_
  refine And.intro (fun _ => ?_) (fun h5 => absurd rfl (of_decide_eq_true h5))
  refine And.intro (fun h5 => absurd rfl (of_decide_eq_true h5)) (fun _ => ?_)
  have fw := hf.k.w
  have gw := hg.k.w
  refine Exists.intro (svCut f.n g.n f.g g.g) ?_
  refine And.intro ?_ ?_
  · refine ⟨(0 : Nat), [], [], trivial, Nat.zero_le _, ?_⟩
    repeat' (first | exact rfl | (refine And.intro ?_ ?_) | (intro _))
    all_goals skip
  refine fun (i : Nat) (hi : i ≤ g.n) => ?_
  refine And.intro (fun h6 => ?_) (fun h6 => ?_)
  · have h6 : (i : Int) < g.n := of_decide_eq_true h6
    refine And.intro (⟨by omega, by omega⟩ : 0 ≤ (i : Int) ∧ (i : Int) < g.n) ?_
    refine And.intro (⟨by omega, by omega⟩ : 0 ≤ (i : Int) ∧ (i : Int) < g.n) ?_
    refine And.intro ⟨fw i (by omega), gw i (by omega), subC_rng⟩ ?_
    refine And.intro (⟨by omega, by omega⟩ : 0 ≤ (i : Int) ∧ (i : Int) < g.n) ?_
    refine And.intro (fun j _ => ⟨rfl, trivial⟩) ?_
    refine And.intro (by constructor <;> omega : -9223372036854775808 ≤ (i : Int) + 1 ∧ (i : Int) + 1 ≤ 9223372036854775807) ?_
    refine ⟨i + 1, [], [], (show g.n - (i + 1) < g.n - i by omega), (show i + 1 ≤ g.n by omega), ?_⟩
    repeat' (first | exact rfl | (refine And.intro ?_ ?_) | (intro _))
    rename_i j _
    show mix (i + 1) (subL f.g g.g) (fun _ => 0) j = (bif Nat.beq j (0 + i) then (f.g i - g.g i - subC f.g g.g i) % 18446744073709551616 else mix i (subL f.g g.g) (fun _ => 0) j)
    rw [Nat.zero_add]
    exact (mix_put rfl).symm
  · have h6 : ¬ (i : Int) < g.n := of_decide_eq_false h6
    obtain rfl : i = g.n := by omega
    have gw' : Words (upto g.n g.g) f.n := upto_words gw
    have hcc : ∀ j, j ≤ g.n → subC f.g (upto g.n g.g) j = subC f.g g.g j := fun j hj => subC_congr (fun k hk => ⟨rfl, by unfold upto; rw [if_pos (by omega)]⟩)
    refine Exists.intro (subEnd f.n f.g (upto g.n g.g)) ?_
    refine And.intro ?_ ?_
    · refine And.intro (fun h7 => ?_) (fun h7 => ?_)
      · have h7 : (g.n : Int) < f.n := of_decide_eq_true h7
        have hgz : ∀ j, g.n ≤ j → upto g.n g.g j = 0 := fun j hj => by unfold upto; rw [if_neg (by omega)]
        have hcn := hcc g.n (Nat.le_refl _)
        have hcr := subC_rng (f := f.g) (g := g.g) (i := g.n)
        refine And.intro (⟨by omega, by omega⟩ : (0 : Int) ≤ g.n ∧ (g.n : Int) ≤ f.n) ?_
        refine And.intro (⟨by omega, by omega⟩ : (0 : Int) ≤ g.n ∧ (g.n : Int) ≤ f.n) ?_
        refine And.intro (fun h8 => absurd rfl (of_decide_eq_true h8)) (fun _ => ?_)
        refine And.intro (fun h8 => ?_) (fun _ => ?_)
        · have h8 : ((f.n - g.n : Nat) : Int) = 0 := of_decide_eq_true h8
          omega
        refine And.intro (⟨by omega, by omega⟩ : (0 : Int) ≤ 0 ∧ (0 : Int) < (f.n - g.n : Nat)) ?_
        refine And.intro ⟨fw (g.n + 0) (by omega), ⟨hcr.1, Int.lt_of_le_of_lt hcr.2 (by decide)⟩, (⟨by decide, by decide⟩ : (0 : Int) ≤ 0 ∧ (0 : Int) ≤ 1)⟩ ?_
        refine And.intro (⟨by omega, by omega⟩ : (0 : Int) ≤ 0 ∧ (0 : Int) < (f.n - g.n : Nat)) ?_
        refine And.intro (fun j _ => ⟨rfl, trivial⟩) ?_
        have hL : subL f.g (upto g.n g.g) g.n = (f.g g.n - subC f.g g.g g.n - 0) % 18446744073709551616 := by unfold subL; rw [hcn, hgz g.n (Nat.le_refl _)]; congr 1; omega
        have hC : subC f.g (upto g.n g.g) (g.n + 1) = brw (f.g g.n) (subC f.g g.g g.n + 0) := by simp only [subC]; rw [hcn, hgz g.n (Nat.le_refl _)]; congr 1; omega
        have hA : ∀ j, j < g.n → mix g.n (subL f.g g.g) (fun _ => 0) j = subL f.g (upto g.n g.g) j := fun j hj => by
          rw [mix_lt hj]; unfold subL; rw [hcc j (by omega)]; unfold upto; rw [if_pos hj]
        refine And.intro (fun h8 => ?_) (fun h8 => ?_)
        · have h8 : brw (f.g (g.n + 0)) (subC f.g g.g g.n + 0) = 0 := of_decide_eq_true h8
          rw [Nat.add_zero] at h8
          rw [h8] at hC
          have hz1 : ∀ j, g.n + 1 ≤ j → upto g.n g.g j = 0 := fun j hj => hgz j (by omega)
          refine And.intro (⟨by omega, by omega⟩ : (0 : Int) ≤ 0 ∧ (0 : Int) < (f.n - g.n : Nat)) ?_
          refine And.intro (⟨by omega, by omega⟩ : (0 : Int) ≤ 0 ∧ (0 : Int) < (f.n - g.n : Nat)) ?_
          refine And.intro (⟨by omega, by omega⟩ : (0 : Int) ≤ 1 ∧ (1 : Int) ≤ (f.n - g.n : Nat)) ?_
          refine And.intro (⟨by omega, by omega⟩ : (0 : Int) ≤ 1 ∧ (1 : Int) ≤ (f.n - g.n : Nat)) ?_
          refine And.intro (fun j _ => ⟨rfl, trivial⟩) ?_
          refine ⟨(), [], [], trivial, trivial, ?_⟩
          repeat' (first | exact rfl | (refine And.intro ?_ ?_) | (intro _))
          · have h := subC_stop fw hz1 hC (f.n - (g.n + 1)) (by omega)
            rw [show g.n + 1 + (f.n - (g.n + 1)) = f.n by omega] at h
            exact h
          rename_i j _
          show mix f.n (subL f.g (upto g.n g.g)) (fun _ => 0) j = (bif insB (0 + g.n + 1) (min (f.n - g.n - 1) (f.n - g.n - 1)) j then f.g (g.n + (1 + (j - (0 + g.n + 1)))) else bif Nat.beq j (0 + g.n + 0) then (f.g (g.n + 0) - subC f.g g.g g.n - 0) % 18446744073709551616 else mix g.n (subL f.g g.g) (fun _ => 0) j)
          simp only [Nat.zero_add, Nat.add_zero, Nat.min_self]
          refine stop_mix (src := fun j => f.g (g.n + (1 + (j - (g.n + 1))))) (by omega) hL.symm hA (fun j q1 q2 => ?_) (fun j q => mix_ge (by omega))
          rw [subL_stop fw hz1 hC (by omega) q2]
          show f.g j = f.g (g.n + (1 + (j - (g.n + 1))))
          congr 1; omega
        · have h8 : ¬ brw (f.g (g.n + 0)) (subC f.g g.g g.n + 0) = 0 := of_decide_eq_false h8
          rw [Nat.add_zero] at h8
          refine Exists.intro (swCut f.n g.n f.g (subL f.g (upto g.n g.g)) (subC f.g (upto g.n g.g))) ?_
          refine And.intro ?_ ?_
          · refine ⟨(1 : Nat), [], [], trivial, ⟨⟨Nat.le_refl 1, by omega⟩, ?_⟩, ?_⟩
            · have := subC_rng (f := f.g) (g := upto g.n g.g) (i := g.n + 1)
              omega
            repeat' (first | exact rfl | (refine And.intro ?_ ?_) | (intro _))
            · exact (Nat.zero_add _).symm
            rename_i j _
            show mix (g.n + 1) (subL f.g (upto g.n g.g)) (fun _ => 0) j = (bif Nat.beq j (0 + g.n + 0) then (f.g (g.n + 0) - subC f.g g.g g.n - 0) % 18446744073709551616 else mix g.n (subL f.g g.g) (fun _ => 0) j)
            simp only [Nat.zero_add, Nat.add_zero]
            have e : mix g.n (subL f.g g.g) (fun _ => 0) j = mix g.n (subL f.g (upto g.n g.g)) (fun _ => 0) j := by
              by_cases q : j < g.n
              · rw [hA j q, mix_lt q]
              · rw [mix_ge (by omega), mix_ge (by omega)]
            rw [e]
            exact (mix_put hL.symm).symm
          refine fun (i : Nat) hP => ?_
          obtain ⟨⟨i1, i2⟩, i3⟩ : (1 ≤ i ∧ i ≤ f.n - g.n) ∧ subC f.g (upto g.n g.g) (g.n + i) = 1 := hP
          refine And.intro (fun h9 => ?_) (fun h9 => ?_)
          · have h9 : (i : Int) < (f.n - g.n : Nat) := of_decide_eq_true h9
            have fi := fw (g.n + i) (by omega)
            have hLi : subL f.g (upto g.n g.g) (g.n + i) = (f.g (g.n + i) - 1) % 18446744073709551616 := by unfold subL; rw [i3, hgz _ (by omega)]; congr 1; omega
            have hCi : subC f.g (upto g.n g.g) (g.n + i + 1) = brw (f.g (g.n + i)) 1 := by simp only [subC]; rw [i3, hgz _ (by omega)]; congr 1
            refine And.intro (⟨by omega, by omega⟩ : (0 : Int) ≤ i ∧ (i : Int) < (f.n - g.n : Nat)) ?_
            refine And.intro (fun h10 => ?_) (fun h10 => ?_)
            · have h10 : ¬ f.g (g.n + i) = 0 := of_decide_eq_true h10
              have hz1 : ∀ j, g.n + i + 1 ≤ j → upto g.n g.g j = 0 := fun j hj => hgz j (by omega)
              have hC0 : subC f.g (upto g.n g.g) (g.n + i + 1) = 0 := by rw [hCi]; unfold brw; rw [if_neg (by omega)]
              refine And.intro (⟨by omega, by omega⟩ : (0 : Int) ≤ i ∧ (i : Int) < (f.n - g.n : Nat)) ?_
              refine And.intro (fun j _ => ⟨rfl, trivial⟩) ?_
              refine And.intro (⟨by omega, by omega⟩ : (0 : Int) ≤ 0 ∧ (0 : Int) < (f.n - g.n : Nat)) ?_
              refine And.intro (⟨by omega, by omega⟩ : (0 : Int) ≤ 0 ∧ (0 : Int) < (f.n - g.n : Nat)) ?_
              refine And.intro (by constructor <;> omega : -9223372036854775808 ≤ (i : Int) + 1 ∧ (i : Int) + 1 ≤ 9223372036854775807) ?_
              refine And.intro (⟨by omega, by omega⟩ : (0 : Int) ≤ (i : Int) + 1 ∧ (i : Int) + 1 ≤ (f.n - g.n : Nat)) ?_
              refine And.intro (by constructor <;> omega : -9223372036854775808 ≤ (i : Int) + 1 ∧ (i : Int) + 1 ≤ 9223372036854775807) ?_
              refine And.intro (⟨by omega, by omega⟩ : (0 : Int) ≤ (i : Int) + 1 ∧ (i : Int) + 1 ≤ (f.n - g.n : Nat)) ?_
              refine And.intro (fun j _ => ⟨rfl, trivial⟩) ?_
              refine ⟨(), [], [], trivial, trivial, ?_⟩
              repeat' (first | exact rfl | (refine And.intro ?_ ?_) | (intro _))
              · have h := subC_stop fw hz1 hC0 (f.n - (g.n + i + 1)) (by omega)
                rw [show g.n + i + 1 + (f.n - (g.n + i + 1)) = f.n by omega] at h
                exact h
              rename_i j _
              show mix f.n (subL f.g (upto g.n g.g)) (fun _ => 0) j = (bif insB (g.n + (i + 1)) (min (f.n - g.n - (i + 1)) (f.n - g.n - (i + 1))) j then f.g (g.n + ((i + 1) + (j - (g.n + (i + 1))))) else bif Nat.beq j (g.n + i) then (f.g (g.n + i) - 1) % 18446744073709551616 else mix (g.n + i) (subL f.g (upto g.n g.g)) (fun _ => 0) j)
              simp only [Nat.min_self]
              refine stop_mix (k := g.n + i) (src := fun j => f.g (g.n + ((i + 1) + (j - (g.n + (i + 1)))))) (by omega) hLi.symm (fun j q => mix_lt q) (fun j q1 q2 => ?_) (fun j q => mix_ge (by omega))
              rw [subL_stop fw hz1 hC0 (by omega) q2]
              show f.g j = f.g (g.n + ((i + 1) + (j - (g.n + (i + 1)))))
              congr 1; omega
            · have h10 : f.g (g.n + i) = 0 := by
                have h10 : decide (¬ f.g (g.n + i) = 0) = false := h10
                have := of_decide_eq_false h10
                omega
              refine And.intro (⟨by omega, by omega⟩ : (0 : Int) ≤ i ∧ (i : Int) < (f.n - g.n : Nat)) ?_
              refine And.intro (fun j _ => ⟨rfl, trivial⟩) ?_
              refine And.intro (by constructor <;> omega : -9223372036854775808 ≤ (i : Int) + 1 ∧ (i : Int) + 1 ≤ 9223372036854775807) ?_
              refine ⟨i + 1, [], [], (show f.n - g.n - (i + 1) < f.n - g.n - i by omega), ⟨⟨by omega, by omega⟩, by show subC f.g (upto g.n g.g) (g.n + i + 1) = 1; rw [hCi, h10]; rfl⟩, ?_⟩
              repeat' (first | exact rfl | (refine And.intro ?_ ?_) | (intro _))
              rename_i j _
              show mix (g.n + (i + 1)) (subL f.g (upto g.n g.g)) (fun _ => 0) j = (bif Nat.beq j (g.n + i) then 18446744073709551615 else mix (g.n + i) (subL f.g (upto g.n g.g)) (fun _ => 0) j)
              exact (mix_put (show (18446744073709551615 : Int) = subL f.g (upto g.n g.g) (g.n + i) by rw [hLi, h10]; rfl)).symm
          · have h9 : ¬ (i : Int) < (f.n - g.n : Nat) := of_decide_eq_false h9
            have ei : g.n + i = f.n := by omega
            refine ⟨(), [], [], trivial, trivial, ?_⟩
            repeat' (first | exact rfl | (refine And.intro ?_ ?_) | (intro _))
            · rw [← ei]; exact i3
            rename_i j _
            show mix f.n (subL f.g (upto g.n g.g)) (fun _ => 0) j = mix (g.n + i) (subL f.g (upto g.n g.g)) (fun _ => 0) j
            rw [ei]
      · have h7 : ¬ (g.n : Int) < f.n := of_decide_eq_false h7
        have en : f.n = g.n := by omega
        refine ⟨(), [], [], trivial, trivial, ?_⟩
        repeat' (first | exact rfl | (refine And.intro ?_ ?_) | (intro _))
        · rw [en]; exact hcc g.n (Nat.le_refl _)
        rename_i j _
        show mix f.n (subL f.g (upto g.n g.g)) (fun _ => 0) j = mix g.n (subL f.g g.g) (fun _ => 0) j
        rw [en]
        by_cases q : j < g.n
        · rw [mix_lt q, mix_lt q]; unfold subL; rw [hcc j (by omega)]; unfold upto; rw [if_pos q]
        · rw [mix_ge (by omega), mix_ge (by omega)]
    refine fun _ _ => ?_
    have gw' : Words (upto g.n g.g) f.n := upto_words gw
    have hcr := subC_rng (f := f.g) (g := upto g.n g.g) (i := f.n)
    have hsv := sub_val fw gw' f.n (Nat.le_refl _)
    rw [upto_val hn] at hsv
    have hlt := valN_lt (subL_words f.g (upto g.n g.g) f.n)
    have hz0 : subC f.g (upto g.n g.g) f.n = 0 := by
      rcases (by omega : subC f.g (upto g.n g.g) f.n = 0 ∨ subC f.g (upto g.n g.g) f.n = 1) with q | q
      · exact q
      · rw [q, Int.one_mul] at hsv
        have e1 : f.val = valN f.g f.n := rfl
        have e2 : g.val = valN g.g g.n := rfl
        omega
    refine And.intro (fun h => absurd hz0 (of_decide_eq_true h)) (fun _ => ?_)
    have hw : Words (mix f.n (subL f.g (upto g.n g.g)) (fun _ => 0)) f.n := fun j hj => by rw [mix_lt hj]; exact subL_words _ _ f.n j hj
    have hv2 : valN (mix f.n (subL f.g (upto g.n g.g)) (fun _ => 0)) f.n = f.val - g.val := by
      rw [valN_congr (fun j hj => mix_lt hj), hsv, hz0, Int.zero_mul, Int.add_zero]; rfl
    refine norm_k hw (by omega) (fun i hi hn hvi => ?_)
    have hk := hn.word (hvi.symm.trans hv2)
    refine And.intro hk.1.symm (fun j hj => ?_)
    show wordI (f.val - g.val) j = mix f.n (subL f.g (upto g.n g.g)) (fun _ => 0) (0 + j)
    rw [Nat.zero_add]
    exact (hk.2 j hj).symm
noncomputable def conNSub : Con cx := walkCon 80 Tryz.call80 (rds3 rdX (rdF .u64) (rdF .u64)) (fun a => [a.1 = .v (.slice none 0 0), a.2.1.Nat, a.2.2.Nat, a.2.2.val ≤ a.2.1.val]) (fun a => (natF (a.2.1.val - a.2.2.val)).ws) (fun _ => subHow) [100010, 80012] (fun _ => rfl) follows Tryz.func80 (by kernel_rfl) NSub_walk
end Go.Proofs.YtcojfohjdibjjaaGreatDoor
namespace Go.Proofs.YtcojfohjdibjjaaGreatDoor
open Go.RowKit

theorem mulw_rng {x y : Int} (hx : Wrd x) (hy : Wrd y) : 0 ≤ x * y ∧ x * y ≤ 18446744073709551615 * 18446744073709551615 :=
  ⟨Int.mul_nonneg hx.1 hy.1, Int.mul_le_mul (by have := hx.2; omega) (by have := hy.2; omega) hy.1 (by decide)⟩
def maS (a : Int × Int × Int) : SV := .tup [u64 ((a.1 * a.2.1 + a.2.2) / 18446744073709551616), u64 ((a.1 * a.2.1 + a.2.2) % 18446744073709551616)]
set_option maxHeartbeats 2000000 in
set_option maxRecDepth 8000 in
theorem MAW_walk : ∀ a, conj ((fun (a : Int × Int × Int) => [Wrd a.1, Wrd a.2.1, Wrd a.2.2]) a) → evFn (C := cx) [conAdd, conBMul] [] 0 noHow Tryz.f124 ((rds3 (rdI .u64) (rdI .u64) (rdI .u64)).enc a) fun v H _ => resOut (maS a) H v := by
  intro ⟨x, y, c⟩ ⟨hx, hy, hc⟩
  replace hx : Wrd x := hx
  replace hy : Wrd y := hy
  replace hc : Wrd c := hc
  have hp := mulw_rng hx hy
  have hc1 := hc.1
  have hc2 := hc.2
  refine And.intro ⟨hx, hy⟩ ?_
  refine And.intro ⟨⟨Int.emod_nonneg _ (by decide), Int.emod_lt_of_pos _ (by decide)⟩, hc, (⟨by decide, by decide⟩ : (0 : Int) ≤ 0 ∧ (0 : Int) ≤ 1)⟩ ?_
  refine And.intro ?_ ?_
  · show (x * y + c) / 18446744073709551616 = (x * y / 18446744073709551616 + (x * y % 18446744073709551616 + c + 0) / 18446744073709551616) % 18446744073709551616
    generalize x * y = p at *
    omega
  · show (x * y + c) % 18446744073709551616 = (x * y % 18446744073709551616 + c + 0) % 18446744073709551616
    generalize x * y = p at *
    omega
noncomputable def conMAW : Con cx := walkCon 124 Tryz.call124 (rds3 (rdI .u64) (rdI .u64) (rdI .u64)) (fun a => [Wrd a.1, Wrd a.2.1, Wrd a.2.2]) maS (fun _ => noHow) [] (fun _ => rfl) follows Tryz.func124 (by kernel_rfl) MAW_walk
/-- What is carried into place i; the words of a product with d. -/
def mulC (f : Nat → Int) (d : Int) : Nat → Int
  | 0 => 0
  | i + 1 => (f i * d + mulC f d i) / 18446744073709551616
def mulL (f : Nat → Int) (d : Int) (i : Nat) : Int := (f i * d + mulC f d i) % 18446744073709551616
theorem mulC_rng {f : Nat → Int} {d : Int} {n : Nat} (hf : Words f n) (hd : Wrd d) : ∀ {i : Nat}, i ≤ n → Wrd (mulC f d i)
  | 0, _ => ⟨by simp [mulC], by simp [mulC]⟩
  | i + 1, h => by
    have h1 := mulC_rng hf hd (Nat.le_of_succ_le h)
    have h2 := mulw_rng (hf i (by omega)) hd
    obtain ⟨h3, h4⟩ := h1
    simp only [mulC, Wrd]
    generalize f i * d = p at *
    omega
theorem mulL_words (f : Nat → Int) (d : Int) (n : Nat) : Words (mulL f d) n := fun i _ => ⟨Int.emod_nonneg _ (by decide), Int.emod_lt_of_pos _ (by decide)⟩
theorem mul_val (f : Nat → Int) (d : Int) : ∀ i, valN (mulL f d) i + mulC f d i * 18446744073709551616 ^ i = valN f i * d
  | 0 => by simp [valN, mulC]
  | i + 1 => by
    have ih := mul_val f d i
    have h := carry_step (S := f i * d + mulC f d i) (P := 18446744073709551616 ^ i)
    rw [pw_succ]
    simp only [valN, mulC, mulL]
    rw [Int.add_mul] at h
    rw [Int.add_mul, ← ih]
    have e : f i * d * 18446744073709551616 ^ i = f i * 18446744073709551616 ^ i * d := by grind
    omega
def maCut (m : Nat) (f : Nat → Int) (d : Int) : Cut := ⟨Nat, fun i => i ≤ m,
  fun i => ⟨[sl 0 (.g 0 0 1 0 m), sl 1 (Fam.mk m f).ws, sl 2 (u64 d), sl 8 (u64 (mulC f d i)), sl 18 (.v (.int .i64 m)), sl 19 (.v (.int .i64 i))], wordH (m + 1) (mix i (mulL f d) (fun _ => 0)), 1, 0, [], []⟩, fun i => m - i⟩
set_option maxHeartbeats 4000000 in
set_option maxRecDepth 8000 in
theorem MulW_walk : ∀ a, conj ((fun (a : SV × Fam × Int × Int) => [a.1 = .v (.slice none 0 0), a.2.1.Nat, 0 < a.2.1.n, Wrd a.2.2.1, ¬ a.2.2.1 = 0, a.2.2.2 = 0]) a) → evFn (C := cx) [conAdd, conMAW] natI 1 ⟨[1002], [6], [], 0⟩ Tryz.f116 ((rds4 rdX (rdF .u64) (rdI .u64) (rdI .u64)).enc a) fun v H _ => resOut (natF (a.2.1.val * a.2.2.1)).ws H v := by
  intro ⟨z, f, d, r⟩ ⟨hz, hf, h0, hd, hd0, hr⟩
  replace hz : z = .v (.slice none 0 0) := hz
  subst hz
  replace hr : r = 0 := hr
  subst hr
  replace hf : f.Nat := hf
  replace h0 : 0 < f.n := h0
  replace hd : Wrd d := hd
  replace hd0 : ¬ d = 0 := hd0
  have fn := hf.n
  have fw := hf.k.w
  refine And.intro (fun h1 => ?_) (fun h1 => ?_)
  · refine And.intro (fun h2 => absurd (of_decide_eq_true h2) hd0) (fun _ => ?_)
    have h1 : ¬ (f.n : Int) = 0 := of_decide_eq_false h1
    refine And.intro (by constructor <;> omega : -9223372036854775808 ≤ (f.n : Int) + 1 ∧ (f.n : Int) + 1 ≤ 9223372036854775807) ?_
    refine And.intro (fun h4 => ?_) (fun _ => ?_)
    · have h4 : (f.n : Int) + 1 ≤ 0 := of_decide_eq_true h4
      omega
    refine And.intro (fun h4 => ?_) (fun _ => ?_)
    · have h4 : (f.n : Int) + 1 = 1 := of_decide_eq_true h4
      omega
    refine And.intro (by constructor <;> omega : -9223372036854775808 ≤ (f.n : Int) + 1 + 4 ∧ (f.n : Int) + 1 + 4 ≤ 9223372036854775807) ?_
    refine And.intro (⟨by omega, by omega, fitW (by omega)⟩ : (0 : Int) ≤ (f.n : Int) + 1 ∧ (f.n : Int) + 1 ≤ (f.n : Int) + 1 + 4 ∧ fitO ((f.n : Int) + 1 + 4).toNat 8) ?_
    refine Exists.intro (natEnd 8 (f.n + 1) (f.val * d)) ?_
    refine And.intro ?_ ?_
    · refine And.intro (⟨by omega, by omega, by show (f.n : Int) ≤ ((f.n : Int) + 1).toNat; omega⟩ : (0 : Int) ≤ 0 ∧ (0 : Int) ≤ f.n ∧ (f.n : Int) ≤ ((f.n : Int) + 1).toNat) ?_
      refine And.intro (fun h5 => absurd rfl (of_decide_eq_true h5)) (fun _ => ?_)
      refine Exists.intro (maCut f.n f.g d) ?_
      refine And.intro ?_ ?_
      · refine ⟨(0 : Nat), [], [], trivial, Nat.zero_le _, ?_⟩
        repeat' (first | exact rfl | (refine And.intro ?_ ?_) | (intro _))
      refine fun (i : Nat) (hi : i ≤ f.n) => ?_
      refine And.intro (fun h6 => ?_) (fun h6 => ?_)
      · have h6 : (i : Int) < f.n := of_decide_eq_true h6
        refine And.intro (⟨by omega, by omega⟩ : 0 ≤ (i : Int) ∧ (i : Int) < f.n) ?_
        refine And.intro ⟨fw i (by omega), hd, mulC_rng fw hd hi⟩ ?_
        refine And.intro (⟨by omega, by omega⟩ : 0 ≤ (i : Int) ∧ (i : Int) < f.n) ?_
        refine And.intro (fun j _ => ⟨rfl, trivial⟩) ?_
        refine And.intro (by constructor <;> omega : -9223372036854775808 ≤ (i : Int) + 1 ∧ (i : Int) + 1 ≤ 9223372036854775807) ?_
        refine ⟨i + 1, [], [], (show f.n - (i + 1) < f.n - i by omega), (show i + 1 ≤ f.n by omega), ?_⟩
        repeat' (first | exact rfl | (refine And.intro ?_ ?_) | (intro _))
        rename_i j _
        show mix (i + 1) (mulL f.g d) (fun _ => 0) j = (bif Nat.beq j (0 + i) then (f.g i * d + mulC f.g d i) % 18446744073709551616 else mix i (mulL f.g d) (fun _ => 0) j)
        rw [Nat.zero_add]
        exact (mix_put rfl).symm
      · have h6 : ¬ (i : Int) < f.n := of_decide_eq_false h6
        obtain rfl : i = f.n := by omega
        have hc := mulC_rng fw hd (Nat.le_refl f.n)
        refine And.intro (⟨by omega, by show (f.n : Int) < ((f.n : Int) + 1).toNat; omega⟩ : (0 : Int) ≤ f.n ∧ (f.n : Int) < ((f.n : Int) + 1).toNat) ?_
        refine And.intro (fun j _ => ⟨rfl, trivial⟩) ?_
        refine ⟨fun j => bif Nat.beq j f.n then mulC f.g d f.n else mix f.n (mulL f.g d) (fun _ => 0) j, [], [], trivial, ⟨?_, ?_⟩, ?_⟩
        · exact put_words (mulL_words _ _ _) hc
        · rw [put_val, mul_val]; rfl
        repeat' (first | exact rfl | (refine And.intro ?_ ?_) | (intro _))
        rename_i j _
        show (bif Nat.beq j f.n then mulC f.g d f.n else mix f.n (mulL f.g d) (fun _ => 0) j) = (bif Nat.beq j (0 + f.n) then mulC f.g d f.n else mix f.n (mulL f.g d) (fun _ => 0) j)
        rw [Nat.zero_add]
    refine fun (s : Nat → Int) hP => ?_
    obtain ⟨hw, hv⟩ : Words s (f.n + 1) ∧ valN s (f.n + 1) = f.val * d := hP
    refine norm_k hw (by omega) (fun i hi hn hvi => ?_)
    have hk := hn.word (hvi.symm.trans hv)
    refine And.intro hk.1.symm (fun j hj => ?_)
    show wordI (f.val * d) j = s (0 + j)
    rw [Nat.zero_add]
    exact (hk.2 j hj).symm
  · have h1 : decide ((f.n : Int) = 0) = true := h1
    have h1 := of_decide_eq_true h1
    omega
noncomputable def conMulW : Con cx := walkCon 116 Tryz.call116 (rds4 rdX (rdF .u64) (rdI .u64) (rdI .u64)) (fun a => [a.1 = .v (.slice none 0 0), a.2.1.Nat, 0 < a.2.1.n, Wrd a.2.2.1, ¬ a.2.2.1 = 0, a.2.2.2 = 0]) (fun a => (natF (a.2.1.val * a.2.2.1)).ws) (fun _ => ⟨[1002], [6], [], 0⟩) [1002] (fun _ => rfl) follows Tryz.func116 (by kernel_rfl) MulW_walk
end Go.Proofs.YtcojfohjdibjjaaGreatDoor
namespace Go.Proofs.YtcojfohjdibjjaaGreatDoor
open Go.RowKit

noncomputable def inAM : FnI cx := ⟨123, addMul_enters, Tryz.f77, Tryz.func77, [1001], [], [5], 0, by kernel_rfl⟩
def codeOf (fn : Func) : Code := fn.body.getD .skip
/-- What is carried into place i; the words of f + g * d. -/
def amC (f g : Nat → Int) (d : Int) : Nat → Int
  | 0 => 0
  | i + 1 => (g i * d + f i + amC f g d i) / 18446744073709551616
def amL (f g : Nat → Int) (d : Int) (i : Nat) : Int := (g i * d + f i + amC f g d i) % 18446744073709551616
theorem amC_rng {f g : Nat → Int} {d : Int} {n : Nat} (hf : Words f n) (hg : Words g n) (hd : Wrd d) : ∀ {i : Nat}, i ≤ n → Wrd (amC f g d i)
  | 0, _ => ⟨by simp [amC], by simp [amC]⟩
  | i + 1, h => by
    obtain ⟨h3, h4⟩ := amC_rng hf hg hd (Nat.le_of_succ_le h)
    have h2 := mulw_rng (hg i (by omega)) hd
    have h5 := hf i (by omega)
    simp only [amC, Wrd]
    generalize g i * d = p at *
    omega
theorem amL_words (f g : Nat → Int) (d : Int) (n : Nat) : Words (amL f g d) n := fun i _ => ⟨Int.emod_nonneg _ (by decide), Int.emod_lt_of_pos _ (by decide)⟩
theorem am_val (f g : Nat → Int) (d : Int) : ∀ i, valN (amL f g d) i + amC f g d i * 18446744073709551616 ^ i = valN f i + valN g i * d
  | 0 => by simp [valN, amC]
  | i + 1 => by
    have ih := am_val f g d i
    have h := carry_step (S := g i * d + f i + amC f g d i) (P := 18446744073709551616 ^ i)
    rw [pw_succ]
    simp only [valN, amC, amL]
    rw [Int.add_mul, Int.add_mul] at h
    rw [Int.add_mul]
    have e : g i * d * 18446744073709551616 ^ i = g i * 18446744073709551616 ^ i * d := by grind
    omega
/-- i words from off on are others. -/
def amS (off i : Nat) (A s : Nat → Int) (j : Nat) : Int := bif insB off i j then A (j - off) else s j
theorem amS_in {off i j : Nat} {A s : Nat → Int} (h : off ≤ j) (h2 : j < off + i) : amS off i A s j = A (j - off) := by
  unfold amS; rw [insB_iff.2 ⟨h, h2⟩]; rfl
theorem amS_out {off i j : Nat} {A s : Nat → Int} (h : j < off ∨ off + i ≤ j) : amS off i A s j = s j := by
  unfold amS
  have : insB off i j = false := by
    cases e : insB off i j with
    | false => rfl
    | true => have := insB_iff.1 e; omega
  rw [this]; rfl
theorem amS_put {off i j : Nat} {A s : Nat → Int} {v : Int} (h : v = A i) : (bif Nat.beq j (off + i) then v else amS off i A s j) = amS off (i + 1) A s j := by
  by_cases e : j = off + i
  · subst e
    rw [Nat.beq_refl, amS_in (i := i + 1) (by omega) (by omega), Nat.add_sub_cancel_left]; exact h
  · have : Nat.beq j (off + i) = false := by
      cases q : Nat.beq j (off + i) with
      | false => rfl
      | true => exact absurd (Nat.eq_of_beq_eq_true q) e
    rw [this]
    show amS off i A s j = _
    by_cases q : off ≤ j ∧ j < off + i
    · rw [amS_in q.1 q.2, amS_in q.1 (by omega)]
    · rw [amS_out (by omega), amS_out (by omega)]
def amCut (N off n : Nat) (s y : Nat → Int) (d : Int) : Cut := ⟨Nat, fun i => i ≤ n,
  fun i => ⟨[sl 0 (.g 0 0 1 off n), sl 1 (.g 0 0 1 off n), sl 2 (Fam.mk n y).ws, sl 3 (u64 d), sl 10 (u64 (amC (fun j => s (off + j)) y d i)), sl 31 (.v (.int .i64 n)), sl 32 (.v (.int .i64 i))], wordH N (amS off i (amL (fun j => s (off + j)) y d) s), 1, 0, [], []⟩, fun i => n - i⟩
def amK (N off n : Nat) (s y : Nat → Int) (d : Int) (v : SV) (H : Heap) (_ : Nat) : Prop :=
  v = u64 (amC (fun j => s (off + j)) y d n) ∧ ∃ h', look H 0 = some (.lst 0 1 N h' 115) ∧ ∀ j, j < N → h' j = [u64 (amS off n (amL (fun j => s (off + j)) y d) s j)]
set_option maxHeartbeats 4000000 in
set_option maxRecDepth 8000 in
theorem am_walk {N off n : Nat} {s y : Nat → Int} {d : Int} (hN : N ≤ 1000) (hn : off + n ≤ N) (hs : Words s N) (hy : Words y n) (hd : Wrd d) :
    ev [conAdd, conMAW] inAM.fn.ntmps 1 (inlD [conAdd, conMAW] [] 0) (numsI ([] : List (FnI cx))) ⟨inAM.fl, inAM.cuts, inAM.invs, inAM.fu⟩ (codeOf inAM.fn) ⟨argSlots 0 [.g 0 0 1 off n, .g 0 0 1 off n, (Fam.mk n y).ws, u64 d, u64 0], wordH N s, 1, 0, [], []⟩ (endK cx inAM.fn.results.toList (amK N off n s y d)) := by
  refine And.intro (fun _ => ?_) (fun h5 => absurd rfl (of_decide_eq_true h5))
  refine And.intro (fun h5 => absurd rfl (of_decide_eq_true h5)) (fun _ => ?_)
  have fw : Words (fun j => s (off + j)) n := fun j hj => hs (off + j) (by omega)
  refine Exists.intro (amCut N off n s y d) ?_
  refine And.intro ?_ ?_
  · refine ⟨(0 : Nat), [], [], trivial, Nat.zero_le _, ?_⟩
    repeat' (first | exact rfl | (refine And.intro ?_ ?_) | (intro _))
    rename_i j _
    exact (amS_out (by omega) : amS off 0 (amL (fun j => s (off + j)) y d) s j = s j)
  refine fun (i : Nat) (hi : i ≤ n) => ?_
  refine And.intro (fun h6 => ?_) (fun h6 => ?_)
  · have h6 : (i : Int) < n := of_decide_eq_true h6
    refine And.intro (⟨by omega, by omega⟩ : 0 ≤ (i : Int) ∧ (i : Int) < n) ?_
    refine And.intro (⟨by omega, by omega⟩ : 0 ≤ (i : Int) ∧ (i : Int) < n) ?_
    have ez : amS off i (amL (fun j => s (off + j)) y d) s (off + i) = s (off + i) := amS_out (by omega)
    have hzw : Wrd (amS off i (amL (fun j => s (off + j)) y d) s (off + i)) := by rw [ez]; exact hs (off + i) (by omega)
    have hcw := amC_rng fw hy hd hi
    refine And.intro ⟨hy i (by omega), hd, hzw⟩ ?_
    refine And.intro ⟨⟨Int.emod_nonneg _ (by decide), Int.emod_lt_of_pos _ (by decide)⟩, hcw, (⟨by decide, by decide⟩ : (0 : Int) ≤ 0 ∧ (0 : Int) ≤ 1)⟩ ?_
    refine And.intro (⟨by omega, by omega⟩ : 0 ≤ (i : Int) ∧ (i : Int) < n) ?_
    refine And.intro (fun j _ => ⟨rfl, trivial⟩) ?_
    refine And.intro (by constructor <;> omega : -9223372036854775808 ≤ (i : Int) + 1 ∧ (i : Int) + 1 ≤ 9223372036854775807) ?_
    refine ⟨i + 1, [], [], (show n - (i + 1) < n - i by omega), (show i + 1 ≤ n by omega), ?_⟩
    have hp := mulw_rng (hy i (by omega)) hd
    have hs1 := hs (off + i) (by omega)
    obtain ⟨hc1, hc2⟩ := hcw
    repeat' (first | exact rfl | (refine And.intro ?_ ?_) | (intro _))
    · show (y i * d + s (off + i) + amC (fun j => s (off + j)) y d i) / 18446744073709551616 = (((y i * d + amS off i (amL (fun j => s (off + j)) y d) s (off + i)) % 18446744073709551616 + amC (fun j => s (off + j)) y d i + 0) / 18446744073709551616 + (y i * d + amS off i (amL (fun j => s (off + j)) y d) s (off + i)) / 18446744073709551616) % 18446744073709551616
      rw [ez]
      generalize y i * d = p at *
      omega
    rename_i j _
    show amS off (i + 1) (amL (fun j => s (off + j)) y d) s j = (bif Nat.beq j (off + i) then ((y i * d + amS off i (amL (fun j => s (off + j)) y d) s (off + i)) % 18446744073709551616 + amC (fun j => s (off + j)) y d i + 0) % 18446744073709551616 else amS off i (amL (fun j => s (off + j)) y d) s j)
    refine (amS_put ?_).symm
    rw [ez]
    unfold amL
    show _ = (y i * d + s (off + i) + amC (fun j => s (off + j)) y d i) % 18446744073709551616
    generalize y i * d = p at *
    omega
  · have h6 : ¬ (i : Int) < n := of_decide_eq_false h6
    obtain rfl : i = n := by omega
    exact ⟨rfl, _, rfl, fun j _ => rfl⟩
/-- .. of any list of one's own. -/
theorem am_eff {ρ : Names} {W : World} {H : Heap} {m e N off n : Nat} {h : Nat → List SV} {s y : Nat → Int} {d : Int} (hok : HOk cx H ρ W) (hl : look H m = some (.lst e 1 N h 115)) (hN : N ≤ 1000) (hn : off + n ≤ N) (h0 : 0 < n) (hform : ∀ j, j < N → h j = [u64 (s j)]) (hs : Words s N) (hy : Words y n) (hd : Wrd d)
    {vs : List Value} (hv : denL ρ [.g m e 1 off n, .g m e 1 off n, (Fam.mk n y).ws, u64 d, u64 0] vs) {nm : Nat} {ob : Option Prop} :
    Calls cx.P inAM.g vs.toArray W fun e' W' => ∃ val, e' = .returned val ∧ DPost cx ρ W nm ⟨ob, u64 (amC (fun j => s (off + j)) y d n), some (m, .lst e 1 N (fun j => [u64 (amS off n (amL (fun j => s (off + j)) y d) s j)]) 115), false⟩ val W' := by
  obtain ⟨v1, r1, rfl, ⟨l, a1, a2, a3, a4, a5, rfl, a6⟩, hv1⟩ := denL_cons hv
  obtain ⟨v2, r2, rfl, ⟨l', b1, b2, b3, b4, b5, rfl, b6⟩, hv2⟩ := denL_cons hv1
  rw [a1] at b1
  obtain rfl := Option.some.inj b1
  obtain ⟨l2, c1, c2, c3, c4, c5⟩ := hok.blk m _ hl
  rw [a1] at c1
  obtain rfl := Option.some.inj c1
  have hcap : l.cap ≠ 0 := by omega
  obtain ⟨b, u, d1, d2, d3, d4, d5, d6⟩ := c5 hcap
  have hOb : Owns ρ m b := .inr (.inl ⟨e, l, 0, a1, a2, hcap, d1⟩)
  let l0 : LV := ⟨0, l.a, l.cap, l.N⟩
  let ρ0 : Names := ⟨fun _ => none, fun k => if k = 0 then some l0 else none, fun _ _ => none, ρ.z, [], fun _ => False⟩
  have v0 : ρ0.v 0 = some l0 := by simp [ρ0]
  have vne : ∀ k l, ρ0.v k = some l → k = 0 ∧ l = l0 := fun k l hk => by
    by_cases e : k = 0
    · subst e; rw [v0] at hk; exact ⟨rfl, (Option.some.inj hk).symm⟩
    · simp only [ρ0, if_neg e] at hk; cases hk
  have ow : ∀ k b', Owns ρ0 k b' → k = 0 ∧ b' = b := fun k b' ho => by
    rcases ho with h1 | ⟨e1, l1, o1, h1, h2, h3, h4⟩ | ⟨i1, l1, o1, h1, -⟩
    · cases h1
    · obtain ⟨rfl, rfl⟩ := vne _ _ h1
      have h4 : l.a = some ⟨b', o1, none⟩ := h4
      rw [d1] at h4
      injection h4 with h4
      injection h4 with h4
      exact ⟨h2.symm, h4.symm⟩
    · cases h1
  have hrow : ∀ i, i < l.N → ∃ us, denL ρ.zo (h i) us ∧ us.length = 1 ∧ ∀ k c, us[k]? = some c → u[i * 1 + k]? = some c := fun i hi => d6 i (by omega)
  have hok0 : HOk cx (wordH N s) ρ0 W := by
    refine ⟨⟨fun n n' b' h h' => by rw [(ow _ _ h).1, (ow _ _ h').1], fun n b' h => ?_, hok.hb.zok, hok.hb.grd⟩, fun k sb hk => ?_⟩
    · rw [(ow _ _ h).2]; exact hok.hb.low m b hOb
    · by_cases e : 0 = k
      · subst e
        obtain rfl := Option.some.inj (show some _ = some sb from hk)
        refine ⟨l0, v0, rfl, c3, c4, fun _ => ⟨b, u, d1, d2, d3, d4, d5, fun i hi => ?_⟩⟩
        obtain ⟨us, q1, q2, q3⟩ := d6 i hi
        rw [hform i hi] at q1
        exact ⟨us, q1, q2, q3⟩
      · rw [show wordH N s = [(0, _)] from rfl, look_cons_ne _ _ e] at hk; cases hk
  have hargs : denL ρ0 [.g 0 0 1 off n, .g 0 0 1 off n, (Fam.mk n y).ws, u64 d, u64 0] (.slice a5 n (l.cap - off) :: .slice b5 n (l.cap - off) :: r2) := by
    refine denL_cons_of ⟨l0, v0, rfl, a3, a4, _, rfl, a6⟩ (denL_cons_of ⟨l0, v0, rfl, b3, b4, _, rfl, b6⟩ ?_)
    obtain ⟨x1, t1, rfl, ⟨xa, xc, rfl, x2, x3⟩, hv3⟩ := denL_cons hv2
    obtain ⟨x4, t2, rfl, rfl, hv4⟩ := denL_cons hv3
    obtain ⟨x5, t3, rfl, rfl, hv5⟩ := denL_cons hv4
    obtain rfl := denL_nil hv5
    exact denL_cons_of ⟨xa, xc, rfl, x2, x3⟩ (denL_cons_of rfl (denL_cons_of rfl rfl))
  refine (calls_ev (w0 := W) (ρe := ρ0) ⟨inAM.fl, inAM.cuts, inAM.invs, inAM.fu⟩ (inlD_ok follows 0) follows inAM.hf (code := codeOf inAM.fn) (by kernel_rfl) (by kernel_rfl) (by kernel_rfl) hok0 (fun n b h => by cases h) (fun k l hk => by obtain ⟨rfl, rfl⟩ := vne k l hk; exact ⟨Nat.one_pos, Nat.one_pos⟩) (fun _ _ _ h => by cases h) hargs _ (am_walk hN hn hs hy hd)).mono ?_
  rintro e' W' ⟨v, val, H', nm', ρ', rfl, ⟨rfl, h', hl', hf'⟩, hm, hc, hden⟩
  have v0' : ρ'.v 0 = some l0 := hm.le.v 0 l0 v0
  obtain ⟨l3, k1, k2, k3, k4, k5⟩ := hc 0 _ hl'
  rw [v0'] at k1
  obtain rfl := Option.some.inj k1
  obtain ⟨b', u', g1, g2, g3, g4, g5, g6⟩ := k5 hcap
  have g1 : l.a = some ⟨b', 0, none⟩ := g1
  rw [d1] at g1
  obtain rfl : b = b' := by injection g1 with g1; injection g1
  have hmine : ∀ x, Mine ρ0 x → x = b := fun x hx => by
    rcases hx with ⟨k, hk⟩ | hk
    · exact (ow k x hk).2
    · exact hk.elim
  have hblk : ∀ x, x < W.heap.size → x ≠ b → W'.heap[x]? = W.heap[x]? := fun x hx hne => hm.keep.block x hx (fun hmn => by
    rcases hmn with ⟨k, hk⟩ | hk
    · exact hne ((ow k x hk).2)
    · exact hne (hmine x (.inr hk)))
  have hnz : ∀ x i c, ρ'.z x i c → ρ.z x i c ∨ W.heap.size ≤ x := fun x i c hz => by
    rcases hm.zold x i c hz with q | q | q
    · exact .inl q
    · exact .inr q
    · exact absurd hz (by
        rcases q with ⟨k, hk⟩ | hk
        · rw [(ow k x hk).2]; exact g5 i c
        · exact hk.elim)
  refine ⟨val, rfl, ρ.addz ρ'.z, ⟨Names.le_addz, fun _ _ h => .inl h, fun _ _ h => .inl h, fun x i c hz => ?_, fun _ _ => rfl, hm.keep.os, hm.keep.tape, hm.keep.output, hm.keep.size, fun x hx hno => hblk x hx (fun e => hno m rfl (by rw [e]; exact hOb)), ⟨hok.hb.own, fun k x hk => ⟨(hok.hb.low k x hk).1, Nat.lt_of_lt_of_le (hok.hb.low k x hk).2 hm.keep.size⟩, fun x i c hz => ?_, hm.hb.grd⟩⟩, fun k sb hk => ?_, ?_⟩
  · rcases hz with hz | hz
    · exact .inl hz
    · exact hnz x i c hz
  · rcases hz with hz | hz
    · have hz0 := hok.hb.zok x i c hz
      have hne : x ≠ b := fun e => d5 i c (by rw [← e]; exact hz)
      have hx := cell_lt hz0.1
      exact ⟨(cell_of_heap (hblk x hx hne)).trans hz0.1, zc_heap (hblk x hx hne) hz0.2⟩
    · exact hm.hb.zok x i c hz
  · obtain ⟨rfl, rfl⟩ := Prod.mk.inj (Option.some.inj hk)
    refine ⟨l, a1, a2, c3, c4, fun _ => ⟨b, u', d1, g2, g3, g4, fun i c hz => ?_, fun i hi => ?_⟩⟩
    · rcases hz with hz | hz
      · exact d5 i c hz
      · exact g5 i c hz
    · obtain ⟨us, q1, q2, q3⟩ := g6 i hi
      rw [hf' i hi] at q1
      exact ⟨us, denL_le (ρ := ρ'.zo) (ρ' := (ρ.addz ρ'.z).zo) ⟨fun _ _ h => (by cases h), fun _ _ h => (by cases h), fun _ _ _ h => (by cases h), fun x i c hz => (Or.inr hz : ρ.z x i c ∨ ρ'.z x i c)⟩ _ _ q1, q2, q3⟩
  · exact hden
end Go.Proofs.YtcojfohjdibjjaaGreatDoor
