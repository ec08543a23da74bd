/- DefenceDiffers. -/
import Derived.Test.YtinefblphbicaaaDoorH18
namespace Go.Proofs.YtinefblphbicaaaDoor
open Go.RowKit

theorem difFrom_none {f g : Fam} : ∀ m k, (∀ j, k ≤ j → j < k + m → difB f g j = false) → difFrom f g m k = -1
  | 0, k, _ => rfl
  | m + 1, k, h => by
    simp only [difFrom]
    rw [if_neg (by rw [h k (Nat.le_refl _) (by omega)]; decide)]
    exact difFrom_none m (k + 1) fun j h1 h2 => h j (by omega) (by omega)
theorem difFrom_at {f g : Fam} {i : Nat} : ∀ m k, k ≤ i → i < k + m → (∀ j, k ≤ j → j < i → difB f g j = false) → difB f g i = true → difFrom f g m k = i
  | 0, k, h1, h2, _, _ => by omega
  | m + 1, k, h1, h2, h, hi => by
    simp only [difFrom]
    by_cases e : k = i
    · subst e
      rw [if_pos hi]
    · rw [if_neg (by rw [h k (Nat.le_refl _) (by omega)]; decide)]
      exact difFrom_at m (k + 1) (by omega) (by omega) (fun j h1 h2 => h j (by omega) (by omega)) hi
theorem difB_no {f g : Fam} {j : Nat} (h1 : j < f.n) (h2 : j < g.n) (h : f.g j = g.g j) : difB f g j = false := by
  unfold difB
  rw [Int.toNat_natCast, h, decide_eq_false (by omega), decide_eq_false (by omega), decide_eq_false (fun c => c rfl)]
  rfl
theorem difB_yes {f g : Fam} {j : Nat} (h : f.n ≤ j ∨ g.n ≤ j ∨ ¬ f.g j = g.g j) : difB f g j = true := by
  unfold difB
  rw [Int.toNat_natCast]
  simp only [Bool.or_eq_true, decide_eq_true_eq]
  omega
theorem ble_no {n j : Nat} (h : j < n) : Nat.ble n j = false := by
  cases hb : Nat.ble n j with
  | false => rfl
  | true => have := Nat.le_of_ble_eq_true hb; omega
theorem dif_none {f g : Fam} (h0 : f.n = g.n) (h : ∀ j, j < f.n → f.g j = g.g j) : dif f g = -1 :=
  difFrom_none _ _ fun j _ hj => difB_no (by omega) (by omega) (h j (by omega))
theorem dif_at {f g : Fam} {i : Nat} (h0 : i ≤ f.n ∧ i ≤ g.n) (h : ∀ j, j < i → f.g j = g.g j) (hi : i < max f.n g.n) (h1 : f.n = i ∨ g.n = i ∨ ¬ f.g i = g.g i) : dif f g = i :=
  difFrom_at _ _ (Nat.zero_le _) (by omega) (fun j _ hj => difB_no (by omega) (by omega) (h j hj)) (difB_yes (by omega))
/-- A list with one digest changed, and others behind it. -/
def changed (A R : Fam) (k : Nat) (x : Int) : Fam := ⟨k + 1 + R.n, fun j => if j < k then A.g j else if j = k then x else R.g (j - (k + 1))⟩
theorem changed_law {A R : Fam} {k : Nat} {x : Int} (hk : k < A.n) (hne : ¬ A.g k = x) : dif A (changed A R k x) = k ∧ dif (changed A R k x) A = k ∧ dif ⟨k, A.g⟩ (changed A R k x) = k := by
  have hgk : (changed A R k x).g k = x := by
    show (if k < k then _ else if k = k then _ else _) = _
    rw [if_neg (Nat.lt_irrefl _), if_pos rfl]
  have hgj : ∀ j, j < k → (changed A R k x).g j = A.g j := fun j hj => if_pos hj
  have hgn : (changed A R k x).n = k + 1 + R.n := rfl
  generalize changed A R k x = B at hgk hgj hgn
  exact ⟨dif_at ⟨by omega, by omega⟩ (fun j hj => (hgj j hj).symm) (by omega) (.inr (.inr (by rw [hgk]; exact hne))), dif_at ⟨by omega, by omega⟩ (fun j hj => hgj j hj) (by omega) (.inr (.inr (by rw [hgk]; exact fun h => hne h.symm))),
    dif_at (f := ⟨k, A.g⟩) ⟨Nat.le_refl _, by omega⟩ (fun j hj => (hgj j hj).symm) (by show k < max k B.n; omega) (.inl rfl)⟩
theorem changed_bif {A R : Fam} {k : Nat} {x : Int} (j : Nat) : (changed A R k x).g j = bif Nat.ble (k + 1) (0 + j) then R.g (0 + j - (k + 1)) else bif Nat.ble k (0 + j) then x else A.g (0 + j) := by
  rw [Nat.zero_add]
  show (if j < k then A.g j else if j = k then x else R.g (j - (k + 1))) = _
  rcases Nat.lt_trichotomy j k with h | h | h
  · rw [if_pos h, ble_no (by omega : j < k + 1), ble_no h]; rfl
  · subst h
    rw [if_neg (Nat.lt_irrefl _), if_pos rfl, ble_no (by omega : j < j + 1), Nat.ble_eq_true_of_le (Nat.le_refl _)]; rfl
  · rw [if_neg (by omega), if_neg (by omega), Nat.ble_eq_true_of_le (by omega : k + 1 ≤ j)]; rfl
def difCutE (A R : Fam) (at_ k : Int) (x : Int) : Cut := ⟨Unit, fun _ => True, fun _ => ⟨[sl 0 (.rs 1 A.n fun i => [.v (.int .u64 (A.g i))]), sl 9 (.v (.int .i64 k)), sl 10 (.rs 1 (changed A R k.toNat x).n fun i => [.v (.int .u64 ((changed A R k.toNat x).g i))])], [], 0, 0, [], []⟩, fun _ => 0⟩
set_option maxHeartbeats 8000000 in
set_option maxRecDepth 8000 in
theorem differs_walk (A R : Fam) (at_ by_ : Int) (hA : (A.n : Int) ≤ 9223372036854775807) (hR : (R.n : Int) ≤ 9223372036854775807) (hat : 0 ≤ at_ ∧ at_ ≤ 255) (hby : 0 ≤ by_ ∧ by_ < 18446744073709551616) (hAv : ∀ i, i < A.n → 0 ≤ A.g i ∧ A.g i < 18446744073709551616) (hRv : ∀ i, i < R.n → 0 ≤ R.g i ∧ R.g i < 18446744073709551616) :
    evFn (C := cx) [conDiffer, conAwake] [] 0 ⟨[1003], [10], [], 0⟩ Tryd.f5 [.rs 1 A.n fun i => [.v (.int .u64 (A.g i))], .rs 1 R.n fun i => [.v (.int .u64 (R.g i))], .v (.int .u8 at_), .v (.int .u64 by_)] fun v H _ => resOut (.bl true) H v := by
  refine And.intro (fun hb => ?_) (fun hb => ?_)
  · repeat' (first | (refine And.intro ?_ ?_) | exact rfl | (intro _))
  have hb : (decide (60 < (A.n : Int)) || decide (60 < (R.n : Int))) = false := hb
  simp only [Bool.or_eq_false_iff, decide_eq_false_iff_not] at hb
  obtain ⟨hA6, hR6⟩ : A.n ≤ 60 ∧ R.n ≤ 60 := by omega
  have fit : ∀ q, q ≤ 200 → q ≤ maxLen ∧ q * 8 ≤ 140737488355328 := fun q hq => ⟨Nat.le_trans hq (by decide), by omega⟩
  have mil : ∀ q : Nat, q ≤ 200 → (q : Int) ≤ 1000000 := fun q hq => by omega
  refine And.intro (fit _ (by omega)) ?_
  refine And.intro ⟨fun _ _ => trivial, fun _ _ => trivial, mil A.n (by omega), mil A.n (by omega)⟩ ?_
  have d1 : ∀ g : Nat → Int, (∀ i, i < A.n → A.g i = g i) → dif A ⟨A.n, g⟩ = -1 := fun g hg => dif_none rfl hg
  refine And.intro (fun _ => ?_) (fun hb => ?_)
  rotate_left
  · exact (nopeT (ne_no (d1 _ fun i _ => by show _ = A.g (0 + i); rw [Nat.zero_add])) hb).elim
  refine And.intro (fit _ (by omega)) ?_
  refine And.intro ⟨fit _ (by omega), fun i hi j => ⟨rfl, trivial⟩⟩ ?_
  refine And.intro ⟨fun _ _ => trivial, fun _ _ => trivial, mil A.n (by omega), mil (A.n + 1) (by omega)⟩ ?_
  refine And.intro (fun hb => ?_) (fun _ => ?_)
  · refine (nopeT (ne_no ?_) hb).elim
    exact dif_at (f := A) (g := ⟨A.n + 1, _⟩) (i := A.n) ⟨Nat.le_refl _, Nat.le_succ _⟩ (fun j hj => by
      show _ = bif Nat.ble A.n (0 + j) then 0 else A.g (0 + j)
      rw [Nat.zero_add, ble_no hj]
      rfl) (by show A.n < max A.n (A.n + 1); omega) (.inl rfl)
  refine And.intro (fun hb => ?_) (fun hb => ?_)
  · repeat' (first | (refine And.intro ?_ ?_) | exact rfl | (intro _))
  have hb : (decide ((A.n : Int) = 0) || decide (by_ = 0)) = false := hb
  simp only [Bool.or_eq_false_iff, decide_eq_false_iff_not] at hb
  obtain ⟨hA0, hby0⟩ := hb
  have hk : at_.tmod A.n = at_ % A.n := Int.tmod_eq_emod_of_nonneg hat.1
  have hk0 := Int.emod_nonneg at_ (b := A.n) (by omega)
  have hk1 := Int.emod_lt_of_pos at_ (b := A.n) (by omega)
  rw [← hk] at hk0 hk1
  generalize hkk : at_.tmod (A.n : Int) = k at hk0 hk1
  refine And.intro ⟨by omega, by omega⟩ ?_
  refine And.intro (by omega) ?_
  refine And.intro ⟨by rw [hkk]; exact hk0, by rw [hkk]; omega⟩ ?_
  refine And.intro (fit _ (by rw [hkk]; omega)) ?_
  refine Exists.intro (difCutE A R at_ k (IntKind.u64.wrap (A.g k.toNat + by_))) ?_
  refine And.intro ?_ ?_
  · refine And.intro ⟨by rw [hkk]; exact hk0, by rw [hkk]; exact hk1⟩ ?_
    refine And.intro ⟨fit _ (by rw [hkk]; omega), fun _ _ _ => ⟨rfl, trivial⟩⟩ ?_
    refine And.intro ⟨fit _ (by rw [hkk]; omega), fun _ _ _ => ⟨rfl, trivial⟩⟩ ?_
    refine ⟨(), [], [.freeze 4], trivial, trivial, ?_⟩
    subst hkk
    repeat' (first | (refine And.intro ?_ ?_) | exact rfl | (intro _))
    all_goals (rename_i j hj; exact changed_bif j)
  refine fun _ _ => ?_
  have hcn : (changed A R k.toNat (IntKind.u64.wrap (A.g k.toNat + by_))).n ≤ 200 := by show k.toNat + 1 + R.n ≤ 200; omega
  have hne : ¬ A.g k.toNat = IntKind.u64.wrap (A.g k.toNat + by_) := by
    have := hAv k.toNat (by omega)
    rw [wu]
    omega
  have hkc : ((k.toNat : Nat) : Int) = k := by omega
  obtain ⟨f1, f2, f3⟩ := changed_law (R := R) (by omega : k.toNat < A.n) hne
  rw [hkc] at f1 f2 f3
  refine And.intro ⟨fun _ _ => trivial, fun _ _ => trivial, mil _ (by omega : A.n ≤ 200), mil _ hcn⟩ ?_
  refine And.intro (fun _ => ⟨fun _ _ => trivial, fun _ _ => trivial, mil _ hcn, mil _ (by omega : A.n ≤ 200)⟩) ?_
  refine And.intro (by repeat' (first | (refine And.intro ?_ ?_) | (intro _))
                       all_goals omega) ?_
  refine And.intro (fun _ => ⟨fun _ _ => trivial, fun _ _ => trivial, mil _ (by omega : k.toNat ≤ 200), mil _ hcn⟩) ?_
  refine Eq.trans ?_ rfl
  have q : ∀ {a b c : Bool}, a = true → b = true → c = true → true = (a && b && c || false) := by
    intro a b c h1 h2 h3
    rw [h1, h2, h3]
    rfl
  exact q (decide_eq_true f1) (decide_eq_true f2) (decide_eq_true f3)
end Go.Proofs.YtinefblphbicaaaDoor
