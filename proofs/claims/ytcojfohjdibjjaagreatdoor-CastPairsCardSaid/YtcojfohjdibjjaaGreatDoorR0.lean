/- A region that draws its order, walked once, operation by operation: each operation's value is described by a property that no later operation of the head disturbs. -/
import Derived.Test.YtcojfohjdibjjaaGreatDoorA0
import Derived.StillTail
namespace Go.Proofs.YtcojfohjdibjjaaGreatDoor
open Go.RowKit

section
variable {P : Program}

def putAll (vs : Nat → Value) : Nat → List Oper → Act → Act
  | _, [], a => a
  | k, o :: r, a => putAll vs (k + 1) r (a.put o.dst (vs k))

def upd (vs : Nat → Value) (i : Nat) (v : Value) : Nat → Value := fun j => if j = i then v else vs j

theorem putAll_size (vs : Nat → Value) : ∀ (l : List Oper) (k : Nat) (a : Act), (putAll vs k l a).tmps.size = a.tmps.size
  | [], _, _ => rfl
  | o :: r, k, a => by
    rw [putAll, putAll_size vs r]
    cases o.dst <;> simp [Act.put]
theorem putAll_defers (vs : Nat → Value) : ∀ (l : List Oper) (k : Nat) (a : Act), (putAll vs k l a).defers = a.defers
  | [], _, _ => rfl
  | o :: r, k, a => by
    rw [putAll, putAll_defers vs r]
    cases o.dst <;> simp [Act.put]

/-- No operation of the list writes slot t. -/
def freeOf (l : List Oper) (t : Nat) : Bool := l.all fun o => o.dst != some t
theorem put_get_ne (a : Act) {x : Option Tmp} {t : Nat} (h : (x != some t) = true) (v : Value) : (a.put x v).tmps[t]? = a.tmps[t]? := by
  cases x with
  | none => rfl
  | some d =>
    have : d ≠ t := by simpa using h
    simp [Act.put, this]
theorem putAll_free (vs : Nat → Value) {t : Nat} : ∀ (l : List Oper) (k : Nat) (a : Act), freeOf l t = true → (putAll vs k l a).tmps[t]? = a.tmps[t]?
  | [], _, _, _ => rfl
  | o :: r, k, a, h => by
    simp only [freeOf, List.all_cons, Bool.and_eq_true] at h
    rw [putAll, putAll_free vs r _ _ h.2, put_get_ne a h.1]

/-- The slots that the list writes are there, each written once. -/
def onceB (m : Nat) : List Oper → Bool
  | [] => true
  | o :: r => (match o.dst with | some d => decide (d < m) && freeOf r d | none => true) && onceB m r

theorem putAll_get (vs : Nat → Value) : ∀ (l : List Oper) (k : Nat) (a : Act) (i : Nat) (o : Oper) (d : Nat), onceB a.tmps.size l = true → l[i]? = some o → o.dst = some d →
    (putAll vs k l a).tmps[d]? = some (vs (k + i))
  | [], _, _, i, _, _, _, hi, _ => by simp at hi
  | o' :: r, k, a, 0, o, d, hB, hi, hd => by
    obtain rfl : o' = o := by simpa using hi
    simp only [onceB, hd, Bool.and_eq_true, decide_eq_true_eq] at hB
    rw [putAll, putAll_free vs r _ _ hB.1.2, hd]
    simp [Act.put, hB.1.1]
  | o' :: r, k, a, i + 1, o, d, hB, hi, hd => by
    simp only [onceB, Bool.and_eq_true] at hB
    have hs : (a.put o'.dst (vs k)).tmps.size = a.tmps.size := by cases o'.dst <;> simp [Act.put]
    rw [putAll, putAll_get vs r (k + 1) _ i o d (by rw [hs]; exact hB.2) (by simpa using hi) hd]
    congr 2
    omega

theorem onceB_not (vs : Nat → Value) : ∀ (l : List Oper) (m i j : Nat) (o o' : Oper) (d : Nat), onceB m l = true → l[i]? = some o → l[j]? = some o' → o.dst = some d → o'.dst = some d → i = j
  | [], _, i, _, _, _, _, _, hi, _, _, _ => by simp at hi
  | p :: r, m, 0, 0, o, o', d, _, _, _, _, _ => rfl
  | p :: r, m, 0, j + 1, o, o', d, hB, hi, hj, hd, hd' => by
    obtain rfl : p = o := by simpa using hi
    simp only [onceB, hd, Bool.and_eq_true] at hB
    have := List.all_eq_true.1 hB.1.2 o' (List.mem_of_getElem? (by simpa using hj))
    rw [hd'] at this
    simp at this
  | p :: r, m, i + 1, 0, o, o', d, hB, hi, hj, hd, hd' => by
    obtain rfl : p = o' := by simpa using hj
    simp only [onceB, hd', Bool.and_eq_true] at hB
    have := List.all_eq_true.1 hB.1.2 o (List.mem_of_getElem? (by simpa using hi))
    rw [hd] at this
    simp at this
  | p :: r, m, i + 1, j + 1, o, o', d, hB, hi, hj, hd, hd' => by
    simp only [onceB, Bool.and_eq_true] at hB
    rw [onceB_not vs r m i j o o' d hB.2 (by simpa using hi) (by simpa using hj) hd hd']

/-- Which operation of the list writes slot t? -/
theorem writer (t : Nat) : ∀ (l : List Oper), freeOf l t = true ∨ ∃ (i : Nat) (o : Oper), l[i]? = some o ∧ o.dst = some t
  | [] => .inl rfl
  | o :: r => by
    rcases writer t r with h | ⟨i, o', h1, h2⟩
    · cases hd : (o.dst != some t)
      · exact .inr ⟨0, o, rfl, by simpa using hd⟩
      · exact .inl (by simp only [freeOf, List.all_cons, Bool.and_eq_true]; exact ⟨hd, h⟩)
    · exact .inr ⟨i + 1, o', by simpa using h1, h2⟩

theorem putAll_put (vs : Nat → Value) (l : List Oper) (a : Act) (i : Nat) (o : Oper) (v : Value) (hB : onceB a.tmps.size l = true) (hi : l[i]? = some o) :
    (putAll vs 0 l a).put o.dst v = putAll (upd vs i v) 0 l a := by
  cases hd : o.dst with
  | none =>
    have : ∀ (l : List Oper) (k : Nat) (a : Act), (∀ j o', l[j]? = some o' → o'.dst ≠ none → k + j ≠ i) → putAll vs k l a = putAll (upd vs i v) k l a := by
      intro l
      induction l with
      | nil => intro k a _; rfl
      | cons p r ih =>
        intro k a h
        rw [putAll, putAll]
        have e : a.put p.dst (vs k) = a.put p.dst (upd vs i v k) := by
          cases hp : p.dst with
          | none => rfl
          | some d =>
            have hk := h 0 p rfl (by rw [hp]; simp)
            simp only [Nat.add_zero] at hk
            simp [upd, hk]
        rw [e]
        refine ih (k + 1) _ fun j o' hj hn => ?_
        have := h (j + 1) o' (by simpa using hj) hn
        omega
    show putAll vs 0 l a = _
    refine this l 0 a fun j o' hj hn => ?_
    intro e
    obtain rfl : j = i := by omega
    rw [hi] at hj
    obtain rfl := Option.some.inj hj
    exact hn hd
  | some d =>
    have hext : ∀ t : Nat, ((putAll vs 0 l a).put (some d) v).tmps[t]? = (putAll (upd vs i v) 0 l a).tmps[t]? := by
      intro t
      by_cases htd : d = t
      · subst htd
        rw [putAll_get _ l 0 a i o d hB hi hd]
        have hlt : d < (putAll vs 0 l a).tmps.size := by
          have := putAll_get vs l 0 a i o d hB hi hd
          exact (Array.getElem?_eq_some_iff.1 this).1
        simp [Act.put, hlt, upd]
      · rw [put_get_ne _ (by simpa using htd)]
        rcases writer t l with hf | ⟨j, o', hj, hd'⟩
        · rw [putAll_free vs l 0 a hf, putAll_free _ l 0 a hf]
        · rw [putAll_get vs l 0 a j o' t hB hj hd', putAll_get _ l 0 a j o' t hB hj hd']
          have hji : j ≠ i := by
            rintro rfl
            rw [hi] at hj
            obtain rfl := Option.some.inj hj
            rw [hd] at hd'
            exact htd (Option.some.inj hd')
          simp [upd, hji]
    have hdef : ((putAll vs 0 l a).put (some d) v).defers = (putAll (upd vs i v) 0 l a).defers := by
      rw [putAll_defers]
      show (putAll vs 0 l a).defers = _
      rw [putAll_defers]
    generalize (putAll vs 0 l a).put (some d) v = x at hext hdef
    generalize putAll (upd vs i v) 0 l a = y at hext hdef
    obtain ⟨xt, xd⟩ := x
    obtain ⟨yt, yd⟩ := y
    simp only at hext hdef
    rw [hdef, Array.ext_getElem? hext]
end
end Go.Proofs.YtcojfohjdibjjaaGreatDoor
