/- Natural numbers: a row without the zeros at its end. Natural numbers: sums. Natural numbers: sums, whichever is longer. -/
import Derived.Test.YtcojfohjdibjjaaGreatDoorPB
namespace Go.Proofs.YtcojfohjdibjjaaGreatDoor
open Go.RowKit

theorem addVV_enters (args : Array Value) (w : World) : (callFunc 92 args).run Tryz.prog w = .ok (.enter 72 args) w :=
  run_callFunc_twin (twin := "math/big.addVV_g") Tryz.func92 (by kernel_rfl) (by kernel_rfl) (by kernel_rfl) (by kernel_rfl) Tryz.func72 (by kernel_rfl) (by kernel_rfl) (by kernel_rfl) args w
theorem subVV_enters (args : Array Value) (w : World) : (callFunc 96 args).run Tryz.prog w = .ok (.enter 73 args) w :=
  run_callFunc_twin (twin := "math/big.subVV_g") Tryz.func96 (by kernel_rfl) (by kernel_rfl) (by kernel_rfl) (by kernel_rfl) Tryz.func73 (by kernel_rfl) (by kernel_rfl) (by kernel_rfl) args w
theorem mulAdd_enters (args : Array Value) (w : World) : (callFunc 129 args).run Tryz.prog w = .ok (.enter 76 args) w :=
  run_callFunc_twin (twin := "math/big.mulAddVWW_g") Tryz.func129 (by kernel_rfl) (by kernel_rfl) (by kernel_rfl) (by kernel_rfl) Tryz.func76 (by kernel_rfl) (by kernel_rfl) (by kernel_rfl) args w
theorem addMul_enters (args : Array Value) (w : World) : (callFunc 123 args).run Tryz.prog w = .ok (.enter 77 args) w :=
  run_callFunc_twin (twin := "math/big.addMulVVWW_g") Tryz.func123 (by kernel_rfl) (by kernel_rfl) (by kernel_rfl) (by kernel_rfl) Tryz.func77 (by kernel_rfl) (by kernel_rfl) (by kernel_rfl) args w
noncomputable def inMake : FnI cx := ⟨91, Tryz.call91, Tryz.f91, Tryz.func91, [], [], [], 0, by kernel_rfl⟩
noncomputable def inNorm : FnI cx := ⟨94, Tryz.call94, Tryz.f94, Tryz.func94, [1002], [], [2], 0, by kernel_rfl⟩
noncomputable def inSet : FnI cx := ⟨90, Tryz.call90, Tryz.f90, Tryz.func90, [], [], [], 0, by kernel_rfl⟩
noncomputable def inSetW : FnI cx := ⟨128, Tryz.call128, Tryz.f128, Tryz.func128, [], [], [], 0, by kernel_rfl⟩
noncomputable def inAddVV : FnI cx := ⟨92, addVV_enters, Tryz.f72, Tryz.func72, [1001], [], [4], 0, by kernel_rfl⟩
noncomputable def inSubVV : FnI cx := ⟨96, subVV_enters, Tryz.f73, Tryz.func73, [1001], [], [4], 0, by kernel_rfl⟩
noncomputable def inAddVW : FnI cx := ⟨93, Tryz.call93, Tryz.f93, Tryz.func93, [50008, 50017, 50009, 90018], [], [12], 0, by kernel_rfl⟩
noncomputable def inSubVW : FnI cx := ⟨97, Tryz.call97, Tryz.f97, Tryz.func97, [50008, 50017, 50009, 90018], [], [12], 0, by kernel_rfl⟩
noncomputable def inMulAdd : FnI cx := ⟨129, mulAdd_enters, Tryz.f76, Tryz.func76, [], [], [5], 0, by kernel_rfl⟩
noncomputable def inAlias : FnI cx := ⟨110, Tryz.call110, Tryz.f110, Tryz.func110, [], [], [], 0, by kernel_rfl⟩
noncomputable def inBM : FnI cx := ⟨111, Tryz.call111, Tryz.f111, Tryz.func111, [5], [], [2], 0, by kernel_rfl⟩
noncomputable def natI : List (FnI cx) := [inMake, inNorm, inSetW, inAddVV, inSubVV, inAddVW, inSubVW, inMulAdd, inAlias, inBM]
/-- A list of words of one's own. -/
def wordH (N : Nat) (s : Nat → Int) : Heap := [(0, .lst 0 1 N (fun j => [u64 (s j)]) 115)]
theorem no_words {s : Nat → Int} {N : Nat} (h : ∀ j, j < N → s j = 0) : valN s N = 0 := valN_zeros (m := 0) (Nat.zero_le N) (fun i _ hi => h i hi)
def normCut (N : Nat) (s : Nat → Int) : Cut := ⟨Nat, fun i => i ≤ N ∧ ∀ j, i ≤ j → j < N → s j = 0,
  fun i => ⟨[sl 0 (.g 0 0 1 0 N), sl 2 (.v (.slice none 0 0)), sl 3 (.v (.int .i64 i))], wordH N s, 1, 0, [], []⟩, fun i => i⟩
set_option maxHeartbeats 2000000 in
set_option maxRecDepth 8000 in
theorem norm_k {Γ : List (Con cx)} {d N : Nat} {s : Nat → Int} {K : SV → Heap → Nat → Prop} (hw : Words s N) (hN : N ≤ 1000) (hK : ∀ i, i ≤ N → Nrm s i → valN s N = valN s i → K (.g 0 0 1 0 i) (wordH N s) 1) :
    inlD (conAdd :: Γ) natI (d + 1) 94 [.g 0 0 1 0 N] (wordH N s) 1 K := by
  refine Exists.intro (normCut N s) ?_
  refine And.intro ?_ ?_
  · refine ⟨N, [], [], trivial, ⟨by omega, fun j q1 q2 => by omega⟩, ?_⟩
    repeat' (first | exact rfl | (refine And.intro ?_ ?_) | (intro _))
  refine fun (i : Nat) hP => ?_
  obtain ⟨hi, hj⟩ : i ≤ N ∧ ∀ j, i ≤ j → j < N → s j = 0 := hP
  refine And.intro (fun h1 => ?_) (fun h1 => ?_)
  · have h1 : decide (0 < (i : Int)) = true := h1
    have h1 : 0 < (i : Int) := of_decide_eq_true h1
    have e1 : ((i : Int) - 1).toNat = i - 1 := by omega
    refine And.intro (by constructor <;> omega : -9223372036854775808 ≤ (i : Int) - 1 ∧ (i : Int) - 1 ≤ 9223372036854775807) ?_
    refine And.intro (⟨by omega, by omega⟩ : 0 ≤ (i : Int) - 1 ∧ (i : Int) - 1 < N) ?_
    refine And.intro (fun h2 => ?_) (fun h2 => ?_)
    · have h2 : decide (s (0 + ((i : Int) - 1).toNat) = 0) = true := h2
      rw [e1, Nat.zero_add] at h2
      have h2 := of_decide_eq_true h2
      refine And.intro (by constructor <;> omega : -9223372036854775808 ≤ (i : Int) - 1 ∧ (i : Int) - 1 ≤ 9223372036854775807) ?_
      refine ⟨i - 1, [], [], (show i - 1 < i by omega), ⟨by omega, fun j q1 q2 => ?_⟩, ?_⟩
      · by_cases e : j = i - 1
        · rw [e]; exact h2
        · exact hj j (by omega) q2
      repeat' (first | exact rfl | (refine And.intro ?_ ?_) | (intro _))
      show ((i - 1 : Nat) : Int) = i - 1
      omega
    · have h2 : decide (s (0 + ((i : Int) - 1).toNat) = 0) = false := h2
      rw [e1, Nat.zero_add] at h2
      have h2 := of_decide_eq_false h2
      refine And.intro (⟨by omega, by omega, by omega⟩ : (0 : Int) ≤ 0 ∧ (0 : Int) ≤ i ∧ (i : Int) ≤ N) ?_
      exact hK i hi ⟨hw.le hi, fun _ => h2⟩ (valN_zeros hi hj)
  · have h1 : decide (0 < (i : Int)) = false := h1
    have h1 : ¬ 0 < (i : Int) := of_decide_eq_false h1
    refine And.intro (⟨by omega, by omega, by omega⟩ : (0 : Int) ≤ 0 ∧ (0 : Int) ≤ i ∧ (i : Int) ≤ N) ?_
    exact hK i hi ⟨hw.le hi, fun _ => by omega⟩ (valN_zeros hi hj)
end Go.Proofs.YtcojfohjdibjjaaGreatDoor
namespace Go.Proofs.YtcojfohjdibjjaaGreatDoor
open Go.RowKit

/-- What is carried into place i; the words of a sum. -/
def addC (f g : Nat → Int) : Nat → Int
  | 0 => 0
  | i + 1 => (f i + g i + addC f g i) / 18446744073709551616
def addL (f g : Nat → Int) (i : Nat) : Int := (f i + g i + addC f g i) % 18446744073709551616
theorem addC_rng {f g : Nat → Int} {n : Nat} (hf : Words f n) (hg : Words g n) : ∀ {i : Nat}, i ≤ n → 0 ≤ addC f g i ∧ addC f g i ≤ 1
  | 0, _ => by simp [addC]
  | i + 1, h => by
    have h1 := addC_rng hf hg (Nat.le_of_succ_le h)
    have h2 := hf i (by omega)
    have h3 := hg i (by omega)
    simp only [addC]
    omega
theorem addL_words (f g : Nat → Int) (n : Nat) : Words (addL f g) n := fun i _ => ⟨Int.emod_nonneg _ (by decide), Int.emod_lt_of_pos _ (by decide)⟩
theorem carry_step {S P : Int} : (S % 18446744073709551616) * P + (S / 18446744073709551616) * (18446744073709551616 * P) = S * P := by
  have e := Int.emod_add_mul_ediv S 18446744073709551616
  have : (S % 18446744073709551616 + 18446744073709551616 * (S / 18446744073709551616)) * P = S * P := by rw [e]
  grind
theorem add_val (f g : Nat → Int) : ∀ i, valN (addL f g) i + addC f g i * 18446744073709551616 ^ i = valN f i + valN g i
  | 0 => by simp [valN, addC]
  | i + 1 => by
    have ih := add_val f g i
    have h := carry_step (S := f i + g i + addC f g i) (P := 18446744073709551616 ^ i)
    rw [pw_succ]
    simp only [valN, addC, addL]
    rw [Int.add_mul, Int.add_mul] at h
    omega
theorem addC_congr {f g f' g' : Nat → Int} : ∀ {i : Nat}, (∀ k, k < i → f' k = f k ∧ g' k = g k) → addC f' g' i = addC f g i
  | 0, _ => rfl
  | i + 1, h => by
    simp only [addC]
    rw [addC_congr (fun k hk => h k (by omega)), (h i (by omega)).1, (h i (by omega)).2]
/-- A row that is told up to n, with zeros behind. -/
def upto (n : Nat) (g : Nat → Int) (j : Nat) : Int := if j < n then g j else 0
theorem upto_words {n m : Nat} {g : Nat → Int} (h : Words g n) : Words (upto n g) m := fun i _ => by
  unfold upto
  split
  · rename_i hi; exact h i hi
  · exact ⟨by omega, by omega⟩
theorem upto_val {n m : Nat} {g : Nat → Int} (h : n ≤ m) : valN (upto n g) m = valN g n := by
  rw [valN_zeros h (fun i h1 _ => by unfold upto; rw [if_neg (by omega)])]
  exact valN_congr fun i hi => by unfold upto; rw [if_pos hi]
/-- Where nothing is carried, and zeros are added, the words stay. -/
theorem addC_stop {f g : Nat → Int} {n m : Nat} (hf : Words f m) (hz : ∀ j, n ≤ j → g j = 0) (h0 : addC f g n = 0) : ∀ d, n + d ≤ m → addC f g (n + d) = 0
  | 0, _ => h0
  | d + 1, h => by
    have ih := addC_stop hf hz h0 d (by omega)
    have h2 := hf (n + d) (by omega)
    show (f (n + d) + g (n + d) + addC f g (n + d)) / 18446744073709551616 = 0
    rw [ih, hz (n + d) (by omega)]
    omega
theorem addL_stop {f g : Nat → Int} {n m j : Nat} (hf : Words f m) (hz : ∀ j, n ≤ j → g j = 0) (h0 : addC f g n = 0) (hj : n ≤ j) (hm : j < m) : addL f g j = f j := by
  obtain ⟨d, rfl⟩ : ∃ d, j = n + d := ⟨j - n, by omega⟩
  have h1 := addC_stop hf hz h0 d (by omega)
  have h2 := hf (n + d) hm
  unfold addL
  rw [h1, hz (n + d) (by omega)]
  omega
/-- The first i words of one row, those of another behind. -/
def mix (i : Nat) (a b : Nat → Int) (j : Nat) : Int := bif Nat.blt j i then a j else b j
theorem mix_lt {i j : Nat} {a b : Nat → Int} (h : j < i) : mix i a b j = a j := by
  have e : Nat.blt j i = true := by rw [Nat.blt_eq]; exact h
  unfold mix; rw [e]; rfl
theorem mix_ge {i j : Nat} {a b : Nat → Int} (h : i ≤ j) : mix i a b j = b j := by
  unfold mix
  have : Nat.blt j i = false := by
    cases e : Nat.blt j i with
    | false => rfl
    | true => rw [Nat.blt_eq] at e; omega
  rw [this]; rfl
theorem mix_put {i j : Nat} {a b : Nat → Int} {v : Int} (h : v = a i) : (bif Nat.beq j i then v else mix i a b j) = mix (i + 1) a b j := by
  by_cases e : j = i
  · subst e
    rw [Nat.beq_refl]
    show v = mix (j + 1) a b j
    rw [mix_lt (by omega)]; exact h
  · have : Nat.beq j i = false := by
      cases q : Nat.beq j i with
      | false => rfl
      | true => exact absurd (Nat.eq_of_beq_eq_true q) e
    rw [this]
    show mix i a b j = _
    by_cases h1 : j < i
    · rw [mix_lt h1, mix_lt (by omega)]
    · rw [mix_ge (by omega), mix_ge (by omega)]
theorem fitW {n : Nat} (h : n ≤ 1000) : fitO n 8 := ⟨Nat.le_trans h (by decide), by omega⟩
theorem insB_all {n j : Nat} (h : j < n) : insB 0 n j = true := by
  unfold insB
  rw [show Nat.ble 0 j = true from Nat.ble_eq_true_of_le (Nat.zero_le j)]
  show Nat.blt j (0 + n) = true
  rw [Nat.blt_eq]; omega
set_option maxHeartbeats 2000000 in
set_option maxRecDepth 8000 in
theorem NSet_walk : ∀ a, conj ((fun (a : SV × Fam) => [a.1 = .v (.slice none 0 0), a.2.Nat, 0 < a.2.n]) a) → evFn (C := cx) [conAdd] natI 2 noHow Tryz.f90 ((rds2 rdX (rdF .u64)).enc a) fun v H _ => resOut a.2.ws H v := by
  intro ⟨z, f⟩ ⟨hz, hf, h0⟩
  replace hz : z = .v (.slice none 0 0) := hz
  subst hz
  replace hf : f.Nat := hf
  replace h0 : 0 < f.n := h0
  have fn := hf.n
  refine And.intro (fun h4 => ?_) (fun _ => ?_)
  · have h4 : (f.n : Int) ≤ 0 := of_decide_eq_true h4
    omega
  refine And.intro (fun h4 => ?_) (fun h4 => ?_)
  · have h4 : (f.n : Int) = 1 := of_decide_eq_true h4
    refine And.intro (⟨by omega, by omega, fitW (by decide)⟩ : (0 : Int) ≤ 1 ∧ (1 : Int) ≤ 1 ∧ fitO (Int.toNat 1) 8) ?_
    refine And.intro (fun j _ => ⟨rfl, trivial⟩) ?_
    refine And.intro (show f.n = 1 by omega) ?_
    intro i hi
    have hi : i < 1 := hi
    show f.g i = (bif insB 0 (min f.n 1) (0 + i) then f.g (0 + i - 0) else 0)
    rw [Nat.zero_add, insB_all (by omega)]; rfl
  · have h4 : ¬ (f.n : Int) = 1 := of_decide_eq_false h4
    refine And.intro (by constructor <;> omega : -9223372036854775808 ≤ (f.n : Int) + 4 ∧ (f.n : Int) + 4 ≤ 9223372036854775807) ?_
    refine And.intro (⟨by omega, by omega, fitW (by omega)⟩ : (0 : Int) ≤ f.n ∧ (f.n : Int) ≤ f.n + 4 ∧ fitO ((f.n : Int) + 4).toNat 8) ?_
    refine And.intro (fun j _ => ⟨rfl, trivial⟩) ?_
    refine And.intro rfl ?_
    intro i hi
    have hi : i < f.n := hi
    show f.g i = (bif insB 0 (min f.n f.n) (0 + i) then f.g (0 + i - 0) else 0)
    rw [Nat.zero_add, insB_all (by omega)]; rfl
noncomputable def conNSet : Con cx := walkCon 90 Tryz.call90 (rds2 rdX (rdF .u64)) (fun a => [a.1 = .v (.slice none 0 0), a.2.Nat, 0 < a.2.n]) (fun a => a.2.ws) (fun _ => noHow) [] (fun _ => rfl) follows Tryz.func90 (by kernel_rfl) NSet_walk
theorem insB_iff {off n j : Nat} : insB off n j = true ↔ off ≤ j ∧ j < off + n := by
  unfold insB
  split
  · rename_i h
    have := Nat.le_of_ble_eq_true h
    rw [Nat.blt_eq]
    exact ⟨fun q => ⟨this, q⟩, fun q => q.2⟩
  · rename_i h
    refine ⟨fun q => (by cases q), fun q => ?_⟩
    rw [Nat.ble_eq_true_of_le q.1] at h; cases h
/-- Where one word stops it, and the rest is copied. -/
theorem stop_mix {A old src : Nat → Int} {k m d j : Nat} {v : Int} (hd : k + 1 + d = m) (hv : v = A k) (h1 : ∀ j, j < k → old j = A j) (h2 : ∀ j, k < j → j < m → A j = src j) (h3 : ∀ j, m ≤ j → old j = 0) :
    mix m A (fun _ => 0) j = bif insB (k + 1) d j then src j else bif Nat.beq j k then v else old j := by
  by_cases a1 : insB (k + 1) d j = true
  · rw [a1]
    have a2 := insB_iff.1 a1
    rw [mix_lt (by omega)]
    exact h2 j (by omega) (by omega)
  · rw [eq_false_of_ne_true a1]
    have a2 : ¬ (k + 1 ≤ j ∧ j < k + 1 + d) := fun q => a1 (insB_iff.2 q)
    by_cases e : j = k
    · subst e
      rw [Nat.beq_refl, mix_lt (by omega)]; exact hv.symm
    · have : Nat.beq j k = false := by
        cases q : Nat.beq j k with
        | false => rfl
        | true => exact absurd (Nat.eq_of_beq_eq_true q) e
      rw [this]
      show _ = old j
      by_cases l : j < k
      · rw [mix_lt (by omega)]; exact (h1 j l).symm
      · rw [mix_ge (by omega)]; exact (h3 j (by omega)).symm
def vvCut (N n : Nat) (f g : Nat → Int) : Cut := ⟨Nat, fun i => i ≤ n,
  fun i => ⟨[sl 0 (.g 0 0 1 0 n), sl 1 (Fam.mk n f).ws, sl 2 (Fam.mk n g).ws, sl 6 (u64 (addC f g i)), sl 24 (.v (.int .i64 n)), sl 25 (.v (.int .i64 i))], wordH N (mix i (addL f g) (fun _ => 0)), 1, 0, [], []⟩, fun i => n - i⟩
def addEnd (m : Nat) (f g : Nat → Int) : Cut := ⟨Unit, fun _ => True,
  fun _ => ⟨[sl 0 (.g 0 0 1 0 (m + 1)), sl 6 (.v (.slice none 0 0)), sl 7 (.v (.int .i64 m)), sl 9 (u64 (addC f g m))], wordH (m + 1) (mix m (addL f g) (fun _ => 0)), 1, 0, [], []⟩, fun _ => 0⟩
def vwCut (m n : Nat) (f A : Nat → Int) (C : Nat → Int) : Cut := ⟨Nat, fun i => (1 ≤ i ∧ i ≤ m - n) ∧ C (n + i) = 1,
  fun i => ⟨[sl 0 (.g 0 0 1 n (m - n)), sl 1 (Fam.mk (m - n) fun j => f (n + j)).ws, sl 6 (.il .u64 0), sl 9 (.v (.int .i64 i))], wordH (m + 1) (mix (n + i) A (fun _ => 0)), 1, 0, [], []⟩, fun i => m - n - i⟩
theorem put_words {A : Nat → Int} {m : Nat} {c : Int} (h : Words A m) (hc : 0 ≤ c ∧ c < 18446744073709551616) : Words (fun j => bif Nat.beq j m then c else mix m A (fun _ => 0) j) (m + 1) := fun j hj => by
  by_cases e : j = m
  · subst e; simp only [Nat.beq_refl, cond_true]; exact hc
  · have : Nat.beq j m = false := by
      cases q : Nat.beq j m with
      | false => rfl
      | true => exact absurd (Nat.eq_of_beq_eq_true q) e
    simp only [this, cond_false]
    rw [mix_lt (by omega)]; exact h j (by omega)
theorem put_val {A : Nat → Int} {m : Nat} {c : Int} : valN (fun j => bif Nat.beq j m then c else mix m A (fun _ => 0) j) (m + 1) = valN A m + c * 18446744073709551616 ^ m := by
  simp only [valN, Nat.beq_refl, cond_true]
  congr 1
  refine valN_congr fun j hj => ?_
  have : Nat.beq j m = false := by
    cases q : Nat.beq j m with
    | false => rfl
    | true => have := Nat.eq_of_beq_eq_true q; omega
  simp only [this, cond_false]
  exact mix_lt hj
/-- Ahead of norm: words of one's own that are worth v. -/
def natEnd (r N : Nat) (v : Int) : Cut := ⟨Nat → Int, fun s => Words s N ∧ valN s N = v,
  fun s => ⟨[sl 0 (.g 0 0 1 0 N), sl r (.v (.slice none 0 0))], wordH N s, 1, 0, [], []⟩, fun _ => 0⟩
def natHow : How := ⟨[100010, 90012], [13, 14], [], 0⟩
set_option maxHeartbeats 4000000 in
set_option maxRecDepth 8000 in
theorem NAdd1_walk : ∀ a, conj ((fun (a : SV × Fam × Fam) => [a.1 = .v (.slice none 0 0), a.2.1.Nat, a.2.2.Nat, a.2.2.n ≤ a.2.1.n]) a) → evFn (C := cx) [conAdd, conNSet] natI 1 natHow Tryz.f78 ((rds3 rdX (rdF .u64) (rdF .u64)).enc a) fun v H _ => resOut (natF (a.2.1.val + a.2.2.val)).ws H v := by
  intro ⟨z, f, g⟩ ⟨hz, hf, hg, hn⟩
  replace hz : z = .v (.slice none 0 0) := hz
  subst hz
  replace hf : f.Nat := hf
  replace hg : g.Nat := hg
  replace hn : g.n ≤ f.n := hn
  have fn := hf.n
  have gn := hg.n
  refine And.intro (fun h1 => ?_) (fun _ => ?_)
  · have h1 : (f.n : Int) < g.n := of_decide_eq_true h1
    omega
  refine And.intro (fun h2 => ?_) (fun h2 => ?_)
  · have h2 : (f.n : Int) = 0 := of_decide_eq_true h2
    have e1 : f.n = 0 := by omega
    have e2 : g.n = 0 := by omega
    have e3 : lenI (f.val + g.val) = 0 := by unfold Fam.val; rw [e1, e2]; rfl
    first | exact e3 | exact e3.symm
  have h2 : ¬ (f.n : Int) = 0 := of_decide_eq_false h2
  refine And.intro (fun h3 => ?_) (fun h3 => ?_)
  · have h3 : (g.n : Int) = 0 := of_decide_eq_true h3
    refine And.intro ⟨fun i _ => trivial, rfl, hf, by show 0 < f.n; omega⟩ ?_
    have ev : f.val + g.val = f.val := by
      have : g.n = 0 := by omega
      unfold Fam.val; rw [this]; simp [valN]
    have hk := hf.k.word (v := f.val + g.val) ev.symm
    exact And.intro hk.1.symm (fun i hi => (hk.2 i hi).symm)
  have h3 : ¬ (g.n : Int) = 0 := of_decide_eq_false h3
  refine And.intro (by constructor <;> omega : -9223372036854775808 ≤ (f.n : Int) + 1 ∧ (f.n : Int) + 1 ≤ 9223372036854775807) ?_
  refine And.intro (fun h4 => ?_) (fun _ => ?_)
  · have h4 : (f.n : Int) + 1 ≤ 0 := of_decide_eq_true h4
    omega
  refine And.intro (fun h4 => ?_) (fun _ => ?_)
  · have h4 : (f.n : Int) + 1 = 1 := of_decide_eq_true h4
    omega
  refine And.intro (by constructor <;> omega : -9223372036854775808 ≤ (f.n : Int) + 1 + 4 ∧ (f.n : Int) + 1 + 4 ≤ 9223372036854775807) ?_
  refine And.intro (⟨by omega, by omega, fitW (by omega)⟩ : (0 : Int) ≤ (f.n : Int) + 1 ∧ (f.n : Int) + 1 ≤ (f.n : Int) + 1 + 4 ∧ fitO ((f.n : Int) + 1 + 4).toNat 8) ?_
  refine And.intro (⟨by omega, by show (g.n : Int) ≤ ((f.n : Int) + 1).toNat; omega⟩ : (0 : Int) ≤ g.n ∧ (g.n : Int) ≤ ((f.n : Int) + 1).toNat) ?_
  refine And.intro (⟨by omega, by omega⟩ : (0 : Int) ≤ g.n ∧ (g.n : Int) ≤ f.n) ?_
  refine And.intro (⟨by omega, by omega⟩ : (0 : Int) ≤ g.n ∧ (g.n : Int) ≤ g.n) ?_
  refine And.intro (fun _ => ?_) (fun h5 => absurd rfl (of_decide_eq_true h5))
  refine And.intro (fun h5 => absurd rfl (of_decide_eq_true h5)) (fun _ => ?_)
  have fw := hf.k.w
  have gw := hg.k.w
  refine Exists.intro (vvCut (f.n + 1) g.n f.g g.g) ?_
  refine And.intro ?_ ?_
  · refine ⟨(0 : Nat), [], [], trivial, Nat.zero_le _, ?_⟩
    repeat' (first | exact rfl | (refine And.intro ?_ ?_) | (intro _))
    all_goals skip
  refine fun (i : Nat) (hi : i ≤ g.n) => ?_
  refine And.intro (fun h6 => ?_) (fun h6 => ?_)
  · have h6 : (i : Int) < g.n := of_decide_eq_true h6
    refine And.intro (⟨by omega, by omega⟩ : 0 ≤ (i : Int) ∧ (i : Int) < g.n) ?_
    refine And.intro (⟨by omega, by omega⟩ : 0 ≤ (i : Int) ∧ (i : Int) < g.n) ?_
    refine And.intro ⟨fw i (by omega), gw i (by omega), addC_rng (fw.le hn) gw hi⟩ ?_
    refine And.intro (⟨by omega, by omega⟩ : 0 ≤ (i : Int) ∧ (i : Int) < g.n) ?_
    refine And.intro (fun j _ => ⟨rfl, trivial⟩) ?_
    refine And.intro (by constructor <;> omega : -9223372036854775808 ≤ (i : Int) + 1 ∧ (i : Int) + 1 ≤ 9223372036854775807) ?_
    refine ⟨i + 1, [], [], (show g.n - (i + 1) < g.n - i by omega), (show i + 1 ≤ g.n by omega), ?_⟩
    repeat' (first | exact rfl | (refine And.intro ?_ ?_) | (intro _))
    rename_i j _
    show mix (i + 1) (addL f.g g.g) (fun _ => 0) j = (bif Nat.beq j (0 + i) then (f.g i + g.g i + addC f.g g.g i) % 18446744073709551616 else mix i (addL f.g g.g) (fun _ => 0) j)
    rw [Nat.zero_add]
    exact (mix_put rfl).symm
  · have h6 : ¬ (i : Int) < g.n := of_decide_eq_false h6
    obtain rfl : i = g.n := by omega
    have gw' : Words (upto g.n g.g) f.n := upto_words gw
    have hcc : ∀ j, j ≤ g.n → addC f.g (upto g.n g.g) j = addC f.g g.g j := fun j hj => addC_congr (fun k hk => ⟨rfl, by unfold upto; rw [if_pos (by omega)]⟩)
    refine Exists.intro (addEnd f.n f.g (upto g.n g.g)) ?_
    refine And.intro ?_ ?_
    · refine And.intro (fun h7 => ?_) (fun h7 => ?_)
      · have h7 : (g.n : Int) < f.n := of_decide_eq_true h7
        have hgz : ∀ j, g.n ≤ j → upto g.n g.g j = 0 := fun j hj => by unfold upto; rw [if_neg (by omega)]
        have hcn := hcc g.n (Nat.le_refl _)
        have hcr := addC_rng (fw.le hn) gw (Nat.le_refl _)
        refine And.intro (⟨by omega, by omega, by show (f.n : Int) ≤ ((f.n : Int) + 1).toNat; omega⟩ : (0 : Int) ≤ g.n ∧ (g.n : Int) ≤ f.n ∧ (f.n : Int) ≤ ((f.n : Int) + 1).toNat) ?_
        refine And.intro (⟨by omega, by omega⟩ : (0 : Int) ≤ g.n ∧ (g.n : Int) ≤ f.n) ?_
        refine And.intro (fun h8 => absurd rfl (of_decide_eq_true h8)) (fun _ => ?_)
        refine And.intro (fun h8 => ?_) (fun _ => ?_)
        · have h8 : ((f.n - g.n : Nat) : Int) = 0 := of_decide_eq_true h8
          omega
        refine And.intro (⟨by omega, by omega⟩ : (0 : Int) ≤ 0 ∧ (0 : Int) < (f.n - g.n : Nat)) ?_
        refine And.intro ⟨fw (g.n + 0) (by omega), ⟨hcr.1, Int.lt_of_le_of_lt hcr.2 (by decide)⟩, (⟨by decide, by decide⟩ : (0 : Int) ≤ 0 ∧ (0 : Int) ≤ 1)⟩ ?_
        refine And.intro (⟨by omega, by omega⟩ : (0 : Int) ≤ 0 ∧ (0 : Int) < (f.n - g.n : Nat)) ?_
        refine And.intro (fun j _ => ⟨rfl, trivial⟩) ?_
        have hL : addL f.g (upto g.n g.g) g.n = (f.g g.n + addC f.g g.g g.n + 0) % 18446744073709551616 := by unfold addL; rw [hcn, hgz g.n (Nat.le_refl _)]; congr 1; omega
        have hC : addC f.g (upto g.n g.g) (g.n + 1) = (f.g g.n + addC f.g g.g g.n + 0) / 18446744073709551616 := by simp only [addC]; rw [hcn, hgz g.n (Nat.le_refl _)]; congr 1; omega
        have hA : ∀ j, j < g.n → mix g.n (addL f.g g.g) (fun _ => 0) j = addL f.g (upto g.n g.g) j := fun j hj => by
          rw [mix_lt hj]; unfold addL; rw [hcc j (by omega)]; unfold upto; rw [if_pos hj]
        refine And.intro (fun h8 => ?_) (fun h8 => ?_)
        · have h8 : (f.g (g.n + 0) + addC f.g g.g g.n + 0) / 18446744073709551616 = 0 := of_decide_eq_true h8
          rw [Nat.add_zero] at h8
          rw [h8] at hC
          have hz1 : ∀ j, g.n + 1 ≤ j → upto g.n g.g j = 0 := fun j hj => hgz j (by omega)
          refine And.intro (⟨by omega, by omega⟩ : (0 : Int) ≤ 0 ∧ (0 : Int) < (f.n - g.n : Nat)) ?_
          refine And.intro (⟨by omega, by omega⟩ : (0 : Int) ≤ 0 ∧ (0 : Int) < (f.n - g.n : Nat)) ?_
          refine And.intro (⟨by omega, by omega⟩ : (0 : Int) ≤ 1 ∧ (1 : Int) ≤ (f.n - g.n : Nat)) ?_
          refine And.intro (⟨by omega, by omega⟩ : (0 : Int) ≤ 1 ∧ (1 : Int) ≤ (f.n - g.n : Nat)) ?_
          refine And.intro (fun j _ => ⟨rfl, trivial⟩) ?_
          refine ⟨(), [], [], trivial, trivial, ?_⟩
          repeat' (first | exact rfl | (refine And.intro ?_ ?_) | (intro _))
          · have h := addC_stop fw hz1 hC (f.n - (g.n + 1)) (by omega)
            rw [show g.n + 1 + (f.n - (g.n + 1)) = f.n by omega] at h
            exact h
          rename_i j _
          show mix f.n (addL f.g (upto g.n g.g)) (fun _ => 0) j = (bif insB (0 + g.n + 1) (min (f.n - g.n - 1) (f.n - g.n - 1)) j then f.g (g.n + (1 + (j - (0 + g.n + 1)))) else bif Nat.beq j (0 + g.n + 0) then (f.g (g.n + 0) + addC f.g g.g g.n + 0) % 18446744073709551616 else mix g.n (addL f.g g.g) (fun _ => 0) j)
          simp only [Nat.zero_add, Nat.add_zero, Nat.min_self]
          refine stop_mix (src := fun j => f.g (g.n + (1 + (j - (g.n + 1))))) (by omega) hL.symm hA (fun j q1 q2 => ?_) (fun j q => mix_ge (by omega))
          rw [addL_stop fw hz1 hC (by omega) q2]
          show f.g j = f.g (g.n + (1 + (j - (g.n + 1))))
          congr 1; omega
        · have h8 : ¬ (f.g (g.n + 0) + addC f.g g.g g.n + 0) / 18446744073709551616 = 0 := of_decide_eq_false h8
          rw [Nat.add_zero] at h8
          refine Exists.intro (vwCut f.n g.n f.g (addL f.g (upto g.n g.g)) (addC f.g (upto g.n g.g))) ?_
          refine And.intro ?_ ?_
          · refine ⟨(1 : Nat), [], [], trivial, ⟨⟨Nat.le_refl 1, by omega⟩, ?_⟩, ?_⟩
            · have := addC_rng fw gw' (i := g.n + 1) (by omega)
              omega
            repeat' (first | exact rfl | (refine And.intro ?_ ?_) | (intro _))
            · exact (Nat.zero_add _).symm
            rename_i j _
            show mix (g.n + 1) (addL f.g (upto g.n g.g)) (fun _ => 0) j = (bif Nat.beq j (0 + g.n + 0) then (f.g (g.n + 0) + addC f.g g.g g.n + 0) % 18446744073709551616 else mix g.n (addL f.g g.g) (fun _ => 0) j)
            simp only [Nat.zero_add, Nat.add_zero]
            have e : mix g.n (addL f.g g.g) (fun _ => 0) j = mix g.n (addL f.g (upto g.n g.g)) (fun _ => 0) j := by
              by_cases q : j < g.n
              · rw [hA j q, mix_lt q]
              · rw [mix_ge (by omega), mix_ge (by omega)]
            rw [e]
            exact (mix_put hL.symm).symm
          refine fun (i : Nat) hP => ?_
          obtain ⟨⟨i1, i2⟩, i3⟩ : (1 ≤ i ∧ i ≤ f.n - g.n) ∧ addC f.g (upto g.n g.g) (g.n + i) = 1 := hP
          refine And.intro (fun h9 => ?_) (fun h9 => ?_)
          · have h9 : (i : Int) < (f.n - g.n : Nat) := of_decide_eq_true h9
            have fi := fw (g.n + i) (by omega)
            have hLi : addL f.g (upto g.n g.g) (g.n + i) = (f.g (g.n + i) + 1) % 18446744073709551616 := by unfold addL; rw [i3, hgz _ (by omega)]; congr 1; omega
            have hCi : addC f.g (upto g.n g.g) (g.n + i + 1) = (f.g (g.n + i) + 1) / 18446744073709551616 := by simp only [addC]; rw [i3, hgz _ (by omega)]; congr 1; omega
            refine And.intro (⟨by omega, by omega⟩ : (0 : Int) ≤ i ∧ (i : Int) < (f.n - g.n : Nat)) ?_
            refine And.intro (fun h10 => ?_) (fun h10 => ?_)
            · have h10 : ¬ f.g (g.n + i) = 18446744073709551615 := of_decide_eq_true h10
              have hz1 : ∀ j, g.n + i + 1 ≤ j → upto g.n g.g j = 0 := fun j hj => hgz j (by omega)
              have hC0 : addC f.g (upto g.n g.g) (g.n + i + 1) = 0 := by rw [hCi]; omega
              refine And.intro (⟨by omega, by omega⟩ : (0 : Int) ≤ i ∧ (i : Int) < (f.n - g.n : Nat)) ?_
              refine And.intro (fun j _ => ⟨rfl, trivial⟩) ?_
              refine And.intro (⟨by omega, by omega⟩ : (0 : Int) ≤ 0 ∧ (0 : Int) < (f.n - g.n : Nat)) ?_
              refine And.intro (⟨by omega, by omega⟩ : (0 : Int) ≤ 0 ∧ (0 : Int) < (f.n - g.n : Nat)) ?_
              refine And.intro (by constructor <;> omega : -9223372036854775808 ≤ (i : Int) + 1 ∧ (i : Int) + 1 ≤ 9223372036854775807) ?_
              refine And.intro (⟨by omega, by omega⟩ : (0 : Int) ≤ (i : Int) + 1 ∧ (i : Int) + 1 ≤ (f.n - g.n : Nat)) ?_
              refine And.intro (by constructor <;> omega : -9223372036854775808 ≤ (i : Int) + 1 ∧ (i : Int) + 1 ≤ 9223372036854775807) ?_
              refine And.intro (⟨by omega, by omega⟩ : (0 : Int) ≤ (i : Int) + 1 ∧ (i : Int) + 1 ≤ (f.n - g.n : Nat)) ?_
              refine And.intro (fun j _ => ⟨rfl, trivial⟩) ?_
              refine ⟨(), [], [], trivial, trivial, ?_⟩
              repeat' (first | exact rfl | (refine And.intro ?_ ?_) | (intro _))
              · have h := addC_stop fw hz1 hC0 (f.n - (g.n + i + 1)) (by omega)
                rw [show g.n + i + 1 + (f.n - (g.n + i + 1)) = f.n by omega] at h
                exact h
              rename_i j _
              show mix f.n (addL f.g (upto g.n g.g)) (fun _ => 0) j = (bif insB (g.n + (i + 1)) (min (f.n - g.n - (i + 1)) (f.n - g.n - (i + 1))) j then f.g (g.n + ((i + 1) + (j - (g.n + (i + 1))))) else bif Nat.beq j (g.n + i) then (f.g (g.n + i) + 1) % 18446744073709551616 else mix (g.n + i) (addL f.g (upto g.n g.g)) (fun _ => 0) j)
              simp only [Nat.min_self]
              refine stop_mix (k := g.n + i) (src := fun j => f.g (g.n + ((i + 1) + (j - (g.n + (i + 1)))))) (by omega) hLi.symm (fun j q => mix_lt q) (fun j q1 q2 => ?_) (fun j q => mix_ge (by omega))
              rw [addL_stop fw hz1 hC0 (by omega) q2]
              show f.g j = f.g (g.n + ((i + 1) + (j - (g.n + (i + 1)))))
              congr 1; omega
            · have h10 : f.g (g.n + i) = 18446744073709551615 := by
                have h10 : decide (¬ f.g (g.n + i) = 18446744073709551615) = false := h10
                have := of_decide_eq_false h10
                omega
              refine And.intro (⟨by omega, by omega⟩ : (0 : Int) ≤ i ∧ (i : Int) < (f.n - g.n : Nat)) ?_
              refine And.intro (fun j _ => ⟨rfl, trivial⟩) ?_
              refine And.intro (by constructor <;> omega : -9223372036854775808 ≤ (i : Int) + 1 ∧ (i : Int) + 1 ≤ 9223372036854775807) ?_
              refine ⟨i + 1, [], [], (show f.n - g.n - (i + 1) < f.n - g.n - i by omega), ⟨⟨by omega, by omega⟩, by show addC f.g (upto g.n g.g) (g.n + i + 1) = 1; rw [hCi, h10]; rfl⟩, ?_⟩
              repeat' (first | exact rfl | (refine And.intro ?_ ?_) | (intro _))
              rename_i j _
              show mix (g.n + (i + 1)) (addL f.g (upto g.n g.g)) (fun _ => 0) j = (bif Nat.beq j (g.n + i) then 0 else mix (g.n + i) (addL f.g (upto g.n g.g)) (fun _ => 0) j)
              exact (mix_put (show (0 : Int) = addL f.g (upto g.n g.g) (g.n + i) by rw [hLi, h10]; rfl)).symm
          · have h9 : ¬ (i : Int) < (f.n - g.n : Nat) := of_decide_eq_false h9
            have ei : g.n + i = f.n := by omega
            refine ⟨(), [], [], trivial, trivial, ?_⟩
            repeat' (first | exact rfl | (refine And.intro ?_ ?_) | (intro _))
            · rw [← ei]; exact i3
            rename_i j _
            show mix f.n (addL f.g (upto g.n g.g)) (fun _ => 0) j = mix (g.n + i) (addL f.g (upto g.n g.g)) (fun _ => 0) j
            rw [ei]
      · have h7 : ¬ (g.n : Int) < f.n := of_decide_eq_false h7
        have en : f.n = g.n := by omega
        refine ⟨(), [], [], trivial, trivial, ?_⟩
        repeat' (first | exact rfl | (refine And.intro ?_ ?_) | (intro _))
        · rw [en]; exact hcc g.n (Nat.le_refl _)
        rename_i j _
        show mix f.n (addL f.g (upto g.n g.g)) (fun _ => 0) j = mix g.n (addL f.g g.g) (fun _ => 0) j
        rw [en]
        by_cases q : j < g.n
        · rw [mix_lt q, mix_lt q]; unfold addL; rw [hcc j (by omega)]; unfold upto; rw [if_pos q]
        · rw [mix_ge (by omega), mix_ge (by omega)]
    refine fun _ _ => ?_
    have gw' : Words (upto g.n g.g) f.n := upto_words gw
    have hcr := addC_rng fw gw' (Nat.le_refl _)
    refine Exists.intro (natEnd 6 (f.n + 1) (f.val + g.val)) ?_
    refine And.intro ?_ ?_
    · refine And.intro (⟨by omega, by show (f.n : Int) < (f.n + 1 : Nat); omega⟩ : (0 : Int) ≤ f.n ∧ (f.n : Int) < (f.n + 1 : Nat)) ?_
      refine And.intro (fun j _ => ⟨rfl, trivial⟩) ?_
      refine ⟨fun j => bif Nat.beq j f.n then addC f.g (upto g.n g.g) f.n else mix f.n (addL f.g (upto g.n g.g)) (fun _ => 0) j, [], [], trivial, ⟨?_, ?_⟩, ?_⟩
      · exact put_words (addL_words _ _ _) ⟨hcr.1, Int.lt_of_le_of_lt hcr.2 (by decide)⟩
      · rw [put_val, add_val, upto_val hn]; rfl
      repeat' (first | exact rfl | (refine And.intro ?_ ?_) | (intro _))
      rename_i j _
      show (bif Nat.beq j f.n then addC f.g (upto g.n g.g) f.n else mix f.n (addL f.g (upto g.n g.g)) (fun _ => 0) j) = (bif Nat.beq j (0 + f.n) then addC f.g (upto g.n g.g) f.n else mix f.n (addL f.g (upto g.n g.g)) (fun _ => 0) j)
      rw [Nat.zero_add]
    refine fun (s : Nat → Int) hP => ?_
    obtain ⟨hw, hv⟩ : Words s (f.n + 1) ∧ valN s (f.n + 1) = f.val + g.val := hP
    refine norm_k hw (by omega) (fun i hi hn hvi => ?_)
    have hk := hn.word (hvi.symm.trans hv)
    refine And.intro hk.1.symm (fun j hj => ?_)
    show wordI (f.val + g.val) j = s (0 + j)
    rw [Nat.zero_add]
    exact (hk.2 j hj).symm
noncomputable def conNAdd1 : Con cx := walkCon 78 Tryz.call78 (rds3 rdX (rdF .u64) (rdF .u64)) (fun a => [a.1 = .v (.slice none 0 0), a.2.1.Nat, a.2.2.Nat, a.2.2.n ≤ a.2.1.n]) (fun a => (natF (a.2.1.val + a.2.2.val)).ws) (fun _ => natHow) [100010, 90012] (fun _ => rfl) follows Tryz.func78 (by kernel_rfl) NAdd1_walk
end Go.Proofs.YtcojfohjdibjjaaGreatDoor
namespace Go.Proofs.YtcojfohjdibjjaaGreatDoor
open Go.RowKit

/-- A contract out of two walks. -/
def walkCase {PP : Program} {C : Cx PP} {Γ Γ' : List (Con C)} {Fs Fs' : List (FnI C)} {d d' : Nat} {α : Type} (f : FuncId) (en : ∀ (args : Array Value) (w : World), (callFunc f args).run C.P w = .ok (.enter f args) w) (R : Rds α) (pre : α → List Prop) (out : α → SV) (c : α → Bool) (h h' : How) (hm : C.P.follows .mixedOrders = true) {fn : Func}
    (hf : C.P.funcs[f]? = some fn) (hB : bodyB h.fl fn = true) (hB' : bodyB h'.fl fn = true) (he : ∀ a, conj (pre a) → c a = true → evFn Γ Fs d h fn (R.enc a) fun v H _ => resOut (out a) H v) (he' : ∀ a, conj (pre a) → c a = false → evFn Γ' Fs' d' h' fn (R.enc a) fun v H _ => resOut (out a) H v) : Con C :=
  mkCon f en R pre out fun a ze W vs hp hG hz hd => match hc : c a with
    | true => calls_fn h hm hf hB hG hz hd (he a hp hc)
    | false => calls_fn h' hm hf hB' hG hz hd (he' a hp hc)
set_option maxHeartbeats 4000000 in
set_option maxRecDepth 8000 in
theorem NAdd2_walk : ∀ a, conj ((fun (a : SV × Fam × Fam) => [a.1 = .v (.slice none 0 0), a.2.1.Nat, a.2.2.Nat]) a) → decide (a.2.2.n ≤ a.2.1.n) = false → evFn (C := cx) [conNAdd1] [] 0 ⟨[100010, 90012], [], [], 0⟩ Tryz.f78 ((rds3 rdX (rdF .u64) (rdF .u64)).enc a) fun v H _ => resOut (natF (a.2.1.val + a.2.2.val)).ws H v := by
  intro ⟨z, f, g⟩ ⟨hz, hf, hg⟩ hn
  replace hz : z = .v (.slice none 0 0) := hz
  subst hz
  replace hf : f.Nat := hf
  replace hg : g.Nat := hg
  replace hn : ¬ g.n ≤ f.n := of_decide_eq_false hn
  refine And.intro (fun _ => ?_) (fun h1 => ?_)
  · refine And.intro ⟨fun i _ => trivial, fun i _ => trivial, rfl, hg, hf, by show f.n ≤ g.n; omega⟩ ?_
    have e : g.val + f.val = f.val + g.val := Int.add_comm _ _
    exact And.intro (show lenI (f.val + g.val) = lenI (g.val + f.val) by rw [e]) (fun i hi => show wordI (f.val + g.val) i = wordI (g.val + f.val) i by rw [e])
  · have h1 : ¬ (f.n : Int) < g.n := of_decide_eq_false h1
    omega
noncomputable def conNAdd : Con cx := walkCase (Γ := [conAdd, conNSet]) (Fs := natI) (d := 1) (Γ' := [conNAdd1]) (Fs' := []) (d' := 0) 78 Tryz.call78 (rds3 rdX (rdF .u64) (rdF .u64)) (fun a => [a.1 = .v (.slice none 0 0), a.2.1.Nat, a.2.2.Nat]) (fun a => (natF (a.2.1.val + a.2.2.val)).ws) (fun a => decide (a.2.2.n ≤ a.2.1.n)) natHow ⟨[100010, 90012], [], [], 0⟩ follows Tryz.func78 (by kernel_rfl) (by kernel_rfl) (fun a ⟨h1, h2, h3⟩ hc => NAdd1_walk a ⟨h1, h2, h3, (of_decide_eq_true hc : a.2.2.n ≤ a.2.1.n)⟩) NAdd2_walk
end Go.Proofs.YtcojfohjdibjjaaGreatDoor
