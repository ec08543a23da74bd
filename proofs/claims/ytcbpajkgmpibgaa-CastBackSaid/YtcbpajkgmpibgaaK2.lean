/- Rows in order, by insertion. -/
import Derived.Test.YtcbpajkgmpibgaaC10
namespace Go.Proofs.Ytcbpajkgmpibgaa

/-- x is put into a row (the last first): ahead of all that it is less than. -/
def insR (lt : Int → Int → Bool) : List Int → Int → List Int
  | [], x => [x]
  | y :: r, x => match lt x y with | true => y :: insR lt r x | false => x :: y :: r
def isR (lt : Int → Int → Bool) (l : List Int) : List Int := l.foldl (insR lt) []
/-- A row in order, stably. -/
def sortL (lt : Int → Int → Bool) (l : List Int) : List Int := (isR lt l).reverse
section
variable {lt : Int → Int → Bool}
theorem insR_len : ∀ (r : List Int) (x : Int), (insR lt r x).length = r.length + 1
  | [], x => rfl
  | y :: r, x => by
    simp only [insR]
    split
    · simp [insR_len r x]
    · simp
theorem foldl_insR_len : ∀ (l r : List Int), (l.foldl (insR lt) r).length = l.length + r.length
  | [], r => by simp
  | x :: l, r => by
    rw [List.foldl_cons, foldl_insR_len l, insR_len]
    simp only [List.length_cons]
    omega
theorem isR_len (l : List Int) : (isR lt l).length = l.length := by simp [isR, foldl_insR_len]
theorem sortL_len (l : List Int) : (sortL lt l).length = l.length := by simp [sortL, isR_len]
theorem isR_take {l : List Int} {i : Nat} (h : i < l.length) : isR lt (l.take (i + 1)) = insR lt (isR lt (l.take i)) l[i] := by
  unfold isR
  rw [List.take_add_one, List.getElem?_eq_getElem h, List.foldl_append]
  rfl
theorem insR_app {s r : List Int} {x : Int} (h : ∀ y ∈ s, lt x y = true) : insR lt (s ++ r) x = s ++ insR lt r x := by
  induction s with
  | nil => rfl
  | cons y s ih =>
    simp only [List.cons_append, insR, h y List.mem_cons_self]
    rw [ih fun z hz => h z (List.mem_cons_of_mem _ hz)]
theorem insR_mem {r : List Int} {x y : Int} : y ∈ insR lt r x ↔ y = x ∨ y ∈ r := by
  induction r with
  | nil => simp [insR]
  | cons z r ih =>
    simp only [insR]
    split
    · rw [List.mem_cons, ih, List.mem_cons]; constructor <;> (intro h; rcases h with h | h | h <;> simp [h])
    · simp [List.mem_cons]
theorem foldl_insR_mem {y : Int} : ∀ (l r : List Int), y ∈ l.foldl (insR lt) r ↔ y ∈ l ∨ y ∈ r
  | [], r => by simp
  | x :: l, r => by
    rw [List.foldl_cons, foldl_insR_mem l, insR_mem, List.mem_cons]
    constructor
    · rintro (h | h | h) <;> simp [h]
    · rintro ((h | h) | h) <;> simp [h]
theorem sortL_mem {l : List Int} {y : Int} : y ∈ sortL lt l ↔ y ∈ l := by simp [sortL, isR, foldl_insR_mem]
/-- Neighbours are in order; y comes ahead of x. -/
def Nb (lt : Int → Int → Bool) (R : Int → Int → Prop) : List Int → Prop
  | [] => True
  | [_] => True
  | x :: y :: r => R y x ∧ Nb lt R (y :: r)
theorem Nb.tail {R : Int → Int → Prop} {x : Int} {r : List Int} (h : Nb lt R (x :: r)) : Nb lt R r := by
  cases r with
  | nil => trivial
  | cons y r => exact h.2
theorem insR_nb {R : Int → Int → Prop} {x : Int} (h1 : ∀ y, lt x y = true → R x y) : ∀ {r : List Int}, (∀ y ∈ r, lt x y = false → R y x) → Nb lt R r → Nb lt R (insR lt r x)
  | [], _, _ => trivial
  | y :: r, h2, hn => by
    simp only [insR]
    split
    · rename_i hy
      have ih := insR_nb h1 (r := r) (fun z hz => h2 z (List.mem_cons_of_mem _ hz)) hn.tail
      cases r with
      | nil => exact ⟨h1 y hy, trivial⟩
      | cons z r =>
        simp only [insR] at ih ⊢
        split
        · rename_i hz
          rw [hz] at ih
          exact ⟨hn.1, ih⟩
        · rename_i hz
          rw [hz] at ih
          exact ⟨h1 y hy, ih⟩
    · rename_i hy
      exact ⟨h2 y List.mem_cons_self hy, hn⟩
theorem foldl_nb {R : Int → Int → Prop} (h1 : ∀ x y, lt x y = true → R x y) : ∀ (l r : List Int), (∀ y ∈ r, ∀ x ∈ l, lt x y = false → R y x) → List.Pairwise (fun y x => lt x y = false → R y x) l → Nb lt R r → Nb lt R (l.foldl (insR lt) r)
  | [], r, _, _, hn => hn
  | x :: l, r, h2, hp, hn => by
    rw [List.foldl_cons]
    refine foldl_nb h1 l _ (fun y hy z hz => ?_) (List.pairwise_cons.1 hp).2 (insR_nb (h1 x) (fun y hy => h2 y hy x List.mem_cons_self) hn)
    rcases insR_mem.1 hy with rfl | hy
    · exact (List.pairwise_cons.1 hp).1 z hz
    · exact h2 y hy z (List.mem_cons_of_mem _ hz)
theorem nb_get {R : Int → Int → Prop} : ∀ {r : List Int} (_ : Nb lt R r) {i : Nat} (h : i + 1 < r.length), R r[i + 1] r[i]
  | [], _, i, h => by simp at h
  | [_], _, i, h => by simp at h
  | x :: y :: r, hn, 0, h => hn.1
  | x :: y :: r, hn, i + 1, h => nb_get (r := y :: r) hn.2 (by simpa using h)
/-- In the row in order, of two neighbours the first one comes rightly ahead. -/
theorem sortL_nb {R : Int → Int → Prop} (h1 : ∀ x y, lt x y = true → R x y) {l : List Int} (hp : List.Pairwise (fun y x => lt x y = false → R y x) l) {i : Nat} (h : i + 1 < (sortL lt l).length) : R (sortL lt l)[i] (sortL lt l)[i + 1] := by
  have hn : Nb lt R (isR lt l) := foldl_nb h1 l [] (fun y hy => by cases hy) hp trivial
  have hl : (sortL lt l).length = (isR lt l).length := by simp [sortL]
  have h' : i + 1 < (isR lt l).length := by omega
  have k := nb_get hn (i := (isR lt l).length - 1 - (i + 1)) (by omega)
  have e1 : (sortL lt l)[i]'(by omega) = (isR lt l)[(isR lt l).length - 1 - i]'(by omega) := by simp [sortL, List.getElem_reverse]
  have e2 : (sortL lt l)[i + 1] = (isR lt l)[(isR lt l).length - 1 - (i + 1)]'(by omega) := by simp [sortL, List.getElem_reverse]
  rw [e1, e2]
  have e3 : (isR lt l).length - 1 - (i + 1) + 1 = (isR lt l).length - 1 - i := by omega
  simp only [e3] at k
  exact k
end
/-- Two neighbours change places. -/
theorem swap_get (A B : List Int) (x y : Int) (k : Nat) : (A ++ x :: y :: B).getD k 0 = if k = A.length then x else if k = A.length + 1 then y else (A ++ y :: x :: B).getD k 0 := by
  simp only [List.getD_eq_getElem?_getD]
  rcases Nat.lt_or_ge k A.length with h | h
  · rw [if_neg (by omega), if_neg (by omega), List.getElem?_append_left h, List.getElem?_append_left h]
  · rw [List.getElem?_append_right h, List.getElem?_append_right h]
    obtain ⟨m, rfl⟩ : ∃ m, k = A.length + m := ⟨k - A.length, by omega⟩
    rw [Nat.add_sub_cancel_left]
    match m with
    | 0 => simp
    | 1 => simp
    | m + 2 => simp
end Go.Proofs.Ytcbpajkgmpibgaa
