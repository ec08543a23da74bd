/- Before; lists of ids in order. Rows in order, by insertion. Hits: what it yields; states. -/
import Derived.Test.YtcojfohjdibjjaaGreatDoorQ3
namespace Go.Proofs.YtcojfohjdibjjaaGreatDoor
open Go.RowKit

def beforeE (a b : Body) (p q : Vec) : Int × Int := match decide (¬ wrongE p q 2 (twoB a b) = 0) with
  | true => (0, wrongE p q 2 (twoB a b))
  | false => match !(whereP a p q).2 || !(whereP b p q).2 with
    | true => (0, 6)
    | false => (ordP (whereP a p q).1 (whereP b p q).1, 0)
set_option maxHeartbeats 2000000 in
set_option maxRecDepth 8000 in
theorem Before_walk : ∀ a, conj ((fun _ => []) a) → evFn (C := cx) [conWrong, conWhere, conOrd] [] 0 noHow Tryz.f8 (((rds4 rdBody rdBody rdVec rdVec)).enc a) fun v H _ => resOut ((fun a => .tup [.v (.int .i64 (beforeE a.1 a.2.1 a.2.2.1 a.2.2.2).1), .v (.int .i64 (beforeE a.1 a.2.1 a.2.2.1 a.2.2.2).2)]) a) H v := by
  intro ⟨a, b, p, q⟩ _
  have two : ((2 : Nat) : Int) ≤ 1000000 := by decide
  refine And.intro ⟨two_al trivial trivial, two⟩ ?_
  refine And.intro (fun h1 => ?_) (fun h1 => ?_)
  · have h1 : decide (¬ wrongE p q 2 (twoB a b) = 0) = true := h1
    have he : beforeE a b p q = (0, wrongE p q 2 (twoB a b)) := by unfold beforeE; rw [h1]
    simp only [he]
    repeat' (first | (refine And.intro ?_ ?_) | (intro _) | exact rfl)
  have h1 : decide (¬ wrongE p q 2 (twoB a b) = 0) = false := h1
  obtain ⟨k1, k2, k3, k4, k5⟩ := two_ok (by simpa using h1)
  refine And.intro ⟨k3, k1, k2, k5⟩ ?_
  refine And.intro ⟨k4, k1, k2, k5⟩ ?_
  refine And.intro (fun h2 => ?_) (fun h2 => ?_)
  · have h2 : (!(whereP a p q).2 || !(whereP b p q).2) = true := h2
    have he : beforeE a b p q = (0, 6) := by unfold beforeE; rw [h1, h2]
    simp only [he]
    repeat' (first | (refine And.intro ?_ ?_) | (intro _) | exact rfl)
  have h2 : (!(whereP a p q).2 || !(whereP b p q).2) = false := h2
  have he : beforeE a b p q = (ordP (whereP a p q).1 (whereP b p q).1, 0) := by unfold beforeE; rw [h1, h2]
  simp only [he]
  refine And.intro ⟨where_in k3 k1 k2 k5, where_in k4 k1 k2 k5⟩ ?_
  repeat' (first | (refine And.intro ?_ ?_) | (intro _) | exact rfl)
noncomputable def conBefore : Con cx := walkCon 8 Tryz.call8 (rds4 rdBody rdBody rdVec rdVec) (fun _ => []) (fun a => .tup [.v (.int .i64 (beforeE a.1 a.2.1 a.2.2.1 a.2.2.2).1), .v (.int .i64 (beforeE a.1 a.2.1 a.2.2.1 a.2.2.2).2)]) (fun _ => noHow) [] (fun _ => rfl) follows Tryz.func8 (by kernel_rfl) Before_walk
end Go.Proofs.YtcojfohjdibjjaaGreatDoor
namespace Go.Proofs.YtcojfohjdibjjaaGreatDoor

/-- x is put into a row (the last first): ahead of all that it is less than. -/
def insR (lt : Int → Int → Bool) : List Int → Int → List Int
  | [], x => [x]
  | y :: r, x => match lt x y with | true => y :: insR lt r x | false => x :: y :: r
def isR (lt : Int → Int → Bool) (l : List Int) : List Int := l.foldl (insR lt) []
/-- A row in order, stably. -/
def sortL (lt : Int → Int → Bool) (l : List Int) : List Int := (isR lt l).reverse
section
variable {lt : Int → Int → Bool}
theorem insR_len : ∀ (r : List Int) (x : Int), (insR lt r x).length = r.length + 1
  | [], x => rfl
  | y :: r, x => by
    simp only [insR]
    split
    · simp [insR_len r x]
    · simp
theorem foldl_insR_len : ∀ (l r : List Int), (l.foldl (insR lt) r).length = l.length + r.length
  | [], r => by simp
  | x :: l, r => by
    rw [List.foldl_cons, foldl_insR_len l, insR_len]
    simp only [List.length_cons]
    omega
theorem isR_len (l : List Int) : (isR lt l).length = l.length := by simp [isR, foldl_insR_len]
theorem sortL_len (l : List Int) : (sortL lt l).length = l.length := by simp [sortL, isR_len]
theorem isR_take {l : List Int} {i : Nat} (h : i < l.length) : isR lt (l.take (i + 1)) = insR lt (isR lt (l.take i)) l[i] := by
  unfold isR
  rw [List.take_add_one, List.getElem?_eq_getElem h, List.foldl_append]
  rfl
theorem insR_app {s r : List Int} {x : Int} (h : ∀ y ∈ s, lt x y = true) : insR lt (s ++ r) x = s ++ insR lt r x := by
  induction s with
  | nil => rfl
  | cons y s ih =>
    simp only [List.cons_append, insR, h y List.mem_cons_self]
    rw [ih fun z hz => h z (List.mem_cons_of_mem _ hz)]
theorem insR_mem {r : List Int} {x y : Int} : y ∈ insR lt r x ↔ y = x ∨ y ∈ r := by
  induction r with
  | nil => simp [insR]
  | cons z r ih =>
    simp only [insR]
    split
    · rw [List.mem_cons, ih, List.mem_cons]; constructor <;> (intro h; rcases h with h | h | h <;> simp [h])
    · simp [List.mem_cons]
theorem foldl_insR_mem {y : Int} : ∀ (l r : List Int), y ∈ l.foldl (insR lt) r ↔ y ∈ l ∨ y ∈ r
  | [], r => by simp
  | x :: l, r => by
    rw [List.foldl_cons, foldl_insR_mem l, insR_mem, List.mem_cons]
    constructor
    · rintro (h | h | h) <;> simp [h]
    · rintro ((h | h) | h) <;> simp [h]
theorem sortL_mem {l : List Int} {y : Int} : y ∈ sortL lt l ↔ y ∈ l := by simp [sortL, isR, foldl_insR_mem]
/-- Neighbours are in order; y comes ahead of x. -/
def Nb (lt : Int → Int → Bool) (R : Int → Int → Prop) : List Int → Prop
  | [] => True
  | [_] => True
  | x :: y :: r => R y x ∧ Nb lt R (y :: r)
theorem Nb.tail {R : Int → Int → Prop} {x : Int} {r : List Int} (h : Nb lt R (x :: r)) : Nb lt R r := by
  cases r with
  | nil => trivial
  | cons y r => exact h.2
theorem insR_nb {R : Int → Int → Prop} {x : Int} (h1 : ∀ y, lt x y = true → R x y) : ∀ {r : List Int}, (∀ y ∈ r, lt x y = false → R y x) → Nb lt R r → Nb lt R (insR lt r x)
  | [], _, _ => trivial
  | y :: r, h2, hn => by
    simp only [insR]
    split
    · rename_i hy
      have ih := insR_nb h1 (r := r) (fun z hz => h2 z (List.mem_cons_of_mem _ hz)) hn.tail
      cases r with
      | nil => exact ⟨h1 y hy, trivial⟩
      | cons z r =>
        simp only [insR] at ih ⊢
        split
        · rename_i hz
          rw [hz] at ih
          exact ⟨hn.1, ih⟩
        · rename_i hz
          rw [hz] at ih
          exact ⟨h1 y hy, ih⟩
    · rename_i hy
      exact ⟨h2 y List.mem_cons_self hy, hn⟩
theorem foldl_nb {R : Int → Int → Prop} (h1 : ∀ x y, lt x y = true → R x y) : ∀ (l r : List Int), (∀ y ∈ r, ∀ x ∈ l, lt x y = false → R y x) → List.Pairwise (fun y x => lt x y = false → R y x) l → Nb lt R r → Nb lt R (l.foldl (insR lt) r)
  | [], r, _, _, hn => hn
  | x :: l, r, h2, hp, hn => by
    rw [List.foldl_cons]
    refine foldl_nb h1 l _ (fun y hy z hz => ?_) (List.pairwise_cons.1 hp).2 (insR_nb (h1 x) (fun y hy => h2 y hy x List.mem_cons_self) hn)
    rcases insR_mem.1 hy with rfl | hy
    · exact (List.pairwise_cons.1 hp).1 z hz
    · exact h2 y hy z (List.mem_cons_of_mem _ hz)
theorem nb_get {R : Int → Int → Prop} : ∀ {r : List Int} (_ : Nb lt R r) {i : Nat} (h : i + 1 < r.length), R r[i + 1] r[i]
  | [], _, i, h => by simp at h
  | [_], _, i, h => by simp at h
  | x :: y :: r, hn, 0, h => hn.1
  | x :: y :: r, hn, i + 1, h => nb_get (r := y :: r) hn.2 (by simpa using h)
/-- In the row in order, of two neighbours the first one comes rightly ahead. -/
theorem sortL_nb {R : Int → Int → Prop} (h1 : ∀ x y, lt x y = true → R x y) {l : List Int} (hp : List.Pairwise (fun y x => lt x y = false → R y x) l) {i : Nat} (h : i + 1 < (sortL lt l).length) : R (sortL lt l)[i] (sortL lt l)[i + 1] := by
  have hn : Nb lt R (isR lt l) := foldl_nb h1 l [] (fun y hy => by cases hy) hp trivial
  have hl : (sortL lt l).length = (isR lt l).length := by simp [sortL]
  have h' : i + 1 < (isR lt l).length := by omega
  have k := nb_get hn (i := (isR lt l).length - 1 - (i + 1)) (by omega)
  have e1 : (sortL lt l)[i]'(by omega) = (isR lt l)[(isR lt l).length - 1 - i]'(by omega) := by simp [sortL, List.getElem_reverse]
  have e2 : (sortL lt l)[i + 1] = (isR lt l)[(isR lt l).length - 1 - (i + 1)]'(by omega) := by simp [sortL, List.getElem_reverse]
  rw [e1, e2]
  have e3 : (isR lt l).length - 1 - (i + 1) + 1 = (isR lt l).length - 1 - i := by omega
  simp only [e3] at k
  exact k
end
/-- Two neighbours change places. -/
theorem swap_get (A B : List Int) (x y : Int) (k : Nat) : (A ++ x :: y :: B).getD k 0 = if k = A.length then x else if k = A.length + 1 then y else (A ++ y :: x :: B).getD k 0 := by
  simp only [List.getD_eq_getElem?_getD]
  rcases Nat.lt_or_ge k A.length with h | h
  · rw [if_neg (by omega), if_neg (by omega), List.getElem?_append_left h, List.getElem?_append_left h]
  · rw [List.getElem?_append_right h, List.getElem?_append_right h]
    obtain ⟨m, rfl⟩ : ∃ m, k = A.length + m := ⟨k - A.length, by omega⟩
    rw [Nat.add_sub_cancel_left]
    match m with
    | 0 => simp
    | 1 => simp
    | m + 2 => simp
end Go.Proofs.YtcojfohjdibjjaaGreatDoor
namespace Go.Proofs.YtcojfohjdibjjaaGreatDoor
open Go.RowKit

/-- Are the IDs, from the k-th on, not in order? -/
def unsN (F : Nat → Body) : Nat → Nat → Bool
  | _, 0 => false
  | k, r + 1 => match decide ((F k).iD ≤ (F (k - 1)).iD) with | true => true | false => unsN F (k + 1) r
theorem unsN_step {F : Nat → Body} {k n : Nat} (h : k < n) : unsN F k (n - k) = match decide ((F k).iD ≤ (F (k - 1)).iD) with | true => true | false => unsN F (k + 1) (n - (k + 1)) := by
  rw [show n - k = (n - (k + 1)) + 1 by omega]; rfl
theorem unsN_no {F : Nat → Body} : ∀ {r k : Nat}, unsN F k r = false → ∀ i, k ≤ i → i < k + r → (F (i - 1)).iD < (F i).iD
  | 0, k, _, i, h1, h2 => by omega
  | r + 1, k, h, i, h1, h2 => by
    simp only [unsN] at h
    split at h
    · cases h
    · rename_i hk
      have hk := of_decide_eq_false hk
      rcases Nat.eq_or_lt_of_le h1 with rfl | h1
      · omega
      · exact unsN_no h i h1 (by omega)
theorem unsN_of {F : Nat → Body} : ∀ {r k : Nat}, (∀ i, k ≤ i → i < k + r → (F (i - 1)).iD < (F i).iD) → unsN F k r = false
  | 0, k, _ => rfl
  | r + 1, k, h => by
    have := h k (Nat.le_refl _) (by omega)
    simp only [unsN, decide_eq_false (by omega : ¬ (F k).iD ≤ (F (k - 1)).iD)]
    exact unsN_of fun i h1 h2 => h i (by omega) (by omega)
def hitsErr (n : Nat) (F : Nat → Body) (p q : Vec) : Int := match unsN F 1 (n - 1) with
  | true => 2
  | false => match decide (64 < (n : Int)) with
    | true => 2
    | false => wrongE p q n F
def metB (F : Nat → Body) (p q : Vec) (k : Nat) : Bool := (whereP (F k) p q).2
def hasK (F : Nat → Body) (p q : Vec) : Nat → Int → Bool
  | 0, _ => false
  | k + 1, j => match metB F p q k with | true => decide (j = (F k).iD) || hasK F p q k j | false => hasK F p q k j
def plK (F : Nat → Body) (p q : Vec) : Nat → Int → Plc
  | 0, _ => ⟨0, 0, 0⟩
  | k + 1, j => match metB F p q k with | true => (match decide (j = (F k).iD) with | true => (whereP (F k) p q).1 | false => plK F p q k j) | false => plK F p q k j
def idsK (F : Nat → Body) (p q : Vec) : Nat → List Int
  | 0 => []
  | k + 1 => match metB F p q k with | true => idsK F p q k ++ [(F k).iD] | false => idsK F p q k
def ltK (n : Nat) (F : Nat → Body) (p q : Vec) (x y : Int) : Bool := decide (ordP (plK F p q n x) (plK F p q n y) < 0)
def hitsL (n : Nat) (F : Nat → Body) (p q : Vec) : List Int := sortL (ltK n F p q) (idsK F p q n)
def famL (l : List Int) : Fam := ⟨l.length, fun i => l.getD i 0⟩
def hitsE (n : Nat) (F : Nat → Body) (p q : Vec) : List Int := match decide (¬ hitsErr n F p q = 0) with
  | true => []
  | false => hitsL n F p q
def cellsI (l : List Int) : Nat → List SV := fun i => [.v (.int .i64 (l.getD i 0))]
theorem idsK_len {F : Nat → Body} {p q : Vec} : ∀ k, (idsK F p q k).length ≤ k
  | 0 => Nat.le_refl _
  | k + 1 => by
    have := idsK_len (F := F) (p := p) (q := q) k
    simp only [idsK]
    split
    · simp; omega
    · omega
theorem plK_no {F : Nat → Body} {p q : Vec} {j : Int} : ∀ {k}, hasK F p q k j = false → plK F p q k j = ⟨0, 0, 0⟩
  | 0, _ => rfl
  | k + 1, h => by
    simp only [hasK] at h
    simp only [plK]
    split at h
    · rename_i hm
      simp only [Bool.or_eq_false_iff] at h
      rw [h.1]
      exact plK_no h.2
    · exact plK_no h
theorem plK_in {F : Nat → Body} {p q : Vec} (hp : p.In) (hq : q.In) (hs : shortB p q = true) (j : Int) : ∀ {k}, (∀ i, i < k → (F i).ok = true) → (plK F p q k j).In
  | 0, _ => plcIn (by omega) (by omega)
  | k + 1, h => by
    simp only [plK]
    split
    · split
      · exact where_in (h k (by omega)) hp hq hs
      · exact plK_in hp hq hs j fun i hi => h i (by omega)
    · exact plK_in hp hq hs j fun i hi => h i (by omega)
/-- What the map yields. -/
def lookP (F : Nat → Body) (p q : Vec) (n : Nat) (j : Int) : Plc := ⟨bif hasK F p q n j then (plK F p q n j).n else 0, bif hasK F p q n j then (plK F p q n j).s else 0, bif hasK F p q n j then (plK F p q n j).m else 0⟩
theorem lookP_eq (F : Nat → Body) (p q : Vec) (n : Nat) (j : Int) : lookP F p q n j = plK F p q n j := by
  unfold lookP
  cases h : hasK F p q n j with
  | true => rfl
  | false => rw [plK_no h]; rfl
theorem idsK_yes {F : Nat → Body} {p q : Vec} {k : Nat} (h : metB F p q k = true) : idsK F p q (k + 1) = idsK F p q k ++ [(F k).iD] := by simp only [idsK, h]
theorem idsK_yes_len {F : Nat → Body} {p q : Vec} {k : Nat} (h : metB F p q k = true) : (idsK F p q (k + 1)).length = (idsK F p q k).length + 1 := by rw [idsK_yes h]; simp
theorem idsK_yes_get {F : Nat → Body} {p q : Vec} {k i : Nat} (h : metB F p q k = true) (hi : i < (idsK F p q k).length + 1) : (idsK F p q (k + 1)).getD i 0 = bif Nat.ble (idsK F p q k).length i then (F k).iD else (idsK F p q k).getD i 0 := by
  rw [idsK_yes h]
  simp only [List.getD_eq_getElem?_getD]
  rcases Nat.lt_or_ge i (idsK F p q k).length with h1 | h1
  · rw [List.getElem?_append_left h1, show Nat.ble (idsK F p q k).length i = false by cases hb : Nat.ble (idsK F p q k).length i with | false => rfl | true => exact absurd (Nat.le_of_ble_eq_true hb) (by omega)]
    rfl
  · rw [List.getElem?_append_right h1, show i - (idsK F p q k).length = 0 by omega, show Nat.ble (idsK F p q k).length i = true from Nat.ble_eq_true_of_le h1]
    rfl
theorem hasK_yes {F : Nat → Body} {p q : Vec} {k : Nat} (h : metB F p q k = true) (j : Int) : hasK F p q (k + 1) j = (decide (j = (F k).iD) || hasK F p q k j) := by simp only [hasK, h]
theorem plK_n {F : Nat → Body} {p q : Vec} {k : Nat} (h : metB F p q k = true) (j : Int) : (plK F p q (k + 1) j).n = bif decide (j = (F k).iD) then (whereP (F k) p q).1.n else (plK F p q k j).n := by simp only [plK, h]; cases decide (j = (F k).iD) <;> rfl
theorem plK_s {F : Nat → Body} {p q : Vec} {k : Nat} (h : metB F p q k = true) (j : Int) : (plK F p q (k + 1) j).s = bif decide (j = (F k).iD) then (whereP (F k) p q).1.s else (plK F p q k j).s := by simp only [plK, h]; cases decide (j = (F k).iD) <;> rfl
theorem plK_m {F : Nat → Body} {p q : Vec} {k : Nat} (h : metB F p q k = true) (j : Int) : (plK F p q (k + 1) j).m = bif decide (j = (F k).iD) then (whereP (F k) p q).1.m else (plK F p q k j).m := by simp only [plK, h]; cases decide (j = (F k).iD) <;> rfl
theorem idsK_nay {F : Nat → Body} {p q : Vec} {k : Nat} (h : metB F p q k = false) : idsK F p q (k + 1) = idsK F p q k := by simp only [idsK, h]
theorem hasK_nay {F : Nat → Body} {p q : Vec} {k : Nat} (h : metB F p q k = false) (j : Int) : hasK F p q (k + 1) j = hasK F p q k j := by simp only [hasK, h]
theorem plK_nay {F : Nat → Body} {p q : Vec} {k : Nat} (h : metB F p q k = false) (j : Int) : plK F p q (k + 1) j = plK F p q k j := by simp only [plK, h]
noncomputable def inSort : FnI cx := ⟨31, Tryz.call31, Tryz.f31, Tryz.func31, [], [], [], 0, by kernel_rfl⟩
noncomputable def inStable : FnI cx := ⟨59, Tryz.call59, Tryz.f59, Tryz.func59, [], [], [2], 2, by kernel_rfl⟩
noncomputable def inIns : FnI cx := ⟨84, Tryz.call84, Tryz.f84, Tryz.func84, [2004, 1004, 6], [], [1, 4], 0, by kernel_rfl⟩
noncomputable def inHits1 : FnI cx := ⟨32, Tryz.call32, Tryz.f32, Tryz.func32, [], [], [], 0, by kernel_rfl⟩
/-- The row while the i-th is put in. -/
def rowD (lt : Int → Int → Bool) (L : List Int) (i : Nat) : List Int := (isR lt (L.take i)).reverse ++ L.drop i
theorem rowD_len (lt : Int → Int → Bool) (L : List Int) (i : Nat) : (rowD lt L i).length = L.length := by
  simp only [rowD, List.length_append, List.length_reverse, isR_len, List.length_take, List.length_drop]; omega
theorem rowD_one (lt : Int → Int → Bool) (L : List Int) : rowD lt L 1 = L := by cases L <;> rfl
theorem rowD_all {lt : Int → Int → Bool} {L : List Int} {i : Nat} (h : L.length ≤ i) : rowD lt L i = sortL lt L := by
  unfold rowD sortL
  rw [List.take_of_length_le h, List.drop_eq_nil_of_le h, List.append_nil]
theorem rowD_step {lt : Int → Int → Bool} {L : List Int} {i : Nat} (h : i < L.length) : rowD lt L i = (L[i] :: isR lt (L.take i)).reverse ++ L.drop (i + 1) := by
  unfold rowD
  rw [List.reverse_cons, List.append_assoc, List.drop_eq_getElem_cons h]
  rfl
theorem rowD_next {lt : Int → Int → Bool} {L : List Int} {i : Nat} (h : i < L.length) {s r : List Int} (e : isR lt (L.take i) = s ++ r) (hs : ∀ y ∈ s, lt L[i] y = true) (hr : r = [] ∨ ∃ y r', r = y :: r' ∧ lt L[i] y = false) : rowD lt L (i + 1) = (s ++ L[i] :: r).reverse ++ L.drop (i + 1) := by
  unfold rowD
  rw [isR_take h, e, insR_app hs]
  congr 2
  rcases hr with rfl | ⟨y, r', rfl, hy⟩
  · rfl
  · simp only [insR, hy]
theorem revD (s r T : List Int) (x y : Int) : (s ++ x :: y :: r).reverse ++ T = r.reverse ++ y :: x :: (s.reverse ++ T) := by simp
theorem revD2 (s r T : List Int) (x y : Int) : ((s ++ [y]) ++ x :: r).reverse ++ T = r.reverse ++ x :: y :: (s.reverse ++ T) := by simp
theorem getD_at (A B : List Int) (x : Int) {k : Nat} (h : k = A.length) : (A ++ x :: B).getD k 0 = x := by
  subst h
  simp [List.getD_eq_getElem?_getD]
theorem getD_at1 (A B : List Int) (x y : Int) {k : Nat} (h : k = A.length + 1) : (A ++ x :: y :: B).getD k 0 = y := by
  subst h
  rw [swap_get, if_neg (by omega), if_pos rfl]
theorem beqT {a b : Nat} (h : a = b) : Nat.beq a b = true := by subst h; exact Nat.beq_refl a
theorem beqF {a b : Nat} (h : ¬ a = b) : Nat.beq a b = false := by
  cases e : Nat.beq a b with
  | false => rfl
  | true => exact absurd (Nat.eq_of_beq_eq_true e) h
theorem swapD (A B : List Int) (x y : Int) (k : Nat) : (A ++ x :: y :: B).getD k 0 = bif Nat.beq k A.length then x else bif Nat.beq k (A.length + 1) then y else (A ++ y :: x :: B).getD k 0 := by
  rw [swap_get]
  by_cases h1 : k = A.length
  · rw [if_pos h1, beqT h1]; rfl
  · rw [if_neg h1, beqF h1]
    by_cases h2 : k = A.length + 1
    · rw [if_pos h2, beqT h2]; rfl
    · rw [if_neg h2, beqF h2]; rfl
theorem lookP_in {F : Nat → Body} {p q : Vec} (hp : p.In) (hq : q.In) (hs : shortB p q = true) (j : Int) {k : Nat} (h : ∀ i, i < k → (F i).ok = true) : (lookP F p q k j).In := by
  rw [lookP_eq]; exact plK_in hp hq hs j h
/-- (A hypothesis that is not wanted is not brought into the context: its raw text slows all that reads the context.) -/
theorem imp_of {p q : Prop} (h : q) : p → q := fun _ => h
def sortH (F : Nat → Body) (p q : Vec) (n : Nat) (D : List Int) : Heap := [(0, .lay p.cells 23), (1, .lay q.cells 23), (2, .mp .i64 true (hasK F p q n) (fun j => (plK F p q n j).cells)), (3, .lay [.m 2] 66), (4, .lst 5 1 (idsK F p q n).length (cellsI D) 3)]
def sortCl : SV := .f (.func 32) [] [.p 3 0]
def stCut (F : Nat → Body) (p q : Vec) (n : Nat) : Cut := ⟨Nat × List Int, fun x => (x.1 = 0 ∧ x.2 = idsK F p q n ∧ (idsK F p q n).length < 20) ∨ (x.1 = 20 ∧ x.2 = sortL (ltK n F p q) (idsK F p q n) ∧ (idsK F p q n).length = 20),
  fun x => ⟨[sl 0 (.g 4 5 1 0 (idsK F p q n).length), sl 1 (.v (.int .i64 (idsK F p q n).length)), sl 2 sortCl, sl 6 (.v (.int .i64 20)), sl 7 (.v (.int .i64 x.1))], sortH F p q n x.2, 6, 0, [], []⟩, fun _ => 0⟩
def insCut (F : Nat → Body) (p q : Vec) (n a : Nat) : Cut := ⟨Nat, fun i => a + 1 ≤ i ∧ (i ≤ (idsK F p q n).length ∨ (idsK F p q n).length ≤ i),
  fun i => ⟨[sl 0 (.g 4 5 1 0 (idsK F p q n).length), sl 1 (.v (.int .i64 a)), sl 2 (.v (.int .i64 (idsK F p q n).length)), sl 3 sortCl, sl 8 (.v (.int .i64 i))], sortH F p q n (rowD (ltK n F p q) (idsK F p q n) i), 6, 0, [], []⟩, fun i => (idsK F p q n).length - i⟩
def inCut (F : Nat → Body) (p q : Vec) (n a i : Nat) (x : Int) : Cut := ⟨List Int × List Int, fun y => isR (ltK n F p q) ((idsK F p q n).take i) = y.1 ++ y.2 ∧ ∀ z ∈ y.1, ltK n F p q x z = true,
  fun y => ⟨[sl 0 (.g 4 5 1 0 (idsK F p q n).length), sl 1 (.v (.int .i64 a)), sl 2 (.v (.int .i64 (idsK F p q n).length)), sl 3 sortCl, sl 8 (.v (.int .i64 i)), sl 9 (.v (.int .i64 y.2.length))], sortH F p q n ((y.1 ++ x :: y.2).reverse ++ (idsK F p q n).drop (i + 1)), 6, 0, [], []⟩, fun y => y.2.length⟩
def hitCut1 (n : Nat) (F : Nat → Body) (p q : Vec) : Cut := ⟨Nat, fun k => 1 ≤ k ∧ k ≤ max n 1 ∧ unsN F 1 (n - 1) = unsN F k (n - k),
  fun k => ⟨[sl 0 (.rs 9 n fun i => (F i).cells), sl 4 (.p 0 0), sl 5 (.p 1 0), sl 8 (.v (.int .i64 k))], [(0, .lay p.cells 23), (1, .lay q.cells 23)], 2, 0, [], []⟩, fun k => n - k⟩
def hitCut2 (n : Nat) (F : Nat → Body) (p q : Vec) : Cut := ⟨Nat, fun k => k ≤ n,
  fun k => ⟨[sl 4 (.p 0 0), sl 5 (.p 1 0), sl 10 (.p 3 0), sl 11 (.g 4 5 1 0 (idsK F p q k).length), sl 45 (.rs 9 n fun i => (F i).cells), sl 46 (.v (.int .i64 n)), sl 47 (.v (.int .i64 k))],
    [(0, .lay p.cells 23), (1, .lay q.cells 23), (2, .mp .i64 true (hasK F p q k) (fun j => (plK F p q k j).cells)), (3, .lay [.m 2] 66), (4, .lst 5 1 (idsK F p q k).length (cellsI (idsK F p q k)) 3)], 6, 0, [], []⟩, fun k => n - k⟩
/-- A call's walk, whatever may be entered. -/
def evC {PP : Program} {C : Cx PP} (Γ : List (Con C)) (I : Inl) (inls : List Nat) (h : How) (fn : Func) (args : List SV) (H : Heap) (nm : Nat) (K : SV → Heap → Nat → Prop) : Prop :=
  match fn.body, Nat.ble args.length fn.ntmps with
  | some code, true => ev Γ fn.ntmps nm I inls h code ⟨argSlots 0 args, H, nm, 0, [], []⟩ (endK C fn.results.toList K)
  | _, _ => False
noncomputable def gH : List (Con cx) := [conWrong, conWhere, conOrd]
def inH : List Nat := [31, 59, 84, 32]
/-- The comparison, entered. -/
def CmpI (F : Nat → Body) (p q : Vec) (n : Nat) (I : Inl) : Prop := ∀ (a b : Int) (D : List Int) (K : SV → Heap → Nat → Prop), K (.v (.int .i64 (ordP (lookP F p q n a) (lookP F p q n b)))) (sortH F p q n D) 6 → I 32 [.v (.int .i64 a), .v (.int .i64 b), .p 3 0] (sortH F p q n D) 6 K
set_option maxHeartbeats 2000000 in
set_option maxRecDepth 8000 in
theorem hits1_ev {F : Nat → Body} {p q : Vec} {n : Nat} (ip : p.In) (iq : q.In) (hs : shortB p q = true) (hok : ∀ i, i < n → (F i).ok = true) (I : Inl) (a b : Int) (D : List Int) (K : SV → Heap → Nat → Prop)
    (hK : K (.v (.int .i64 (ordP (lookP F p q n a) (lookP F p q n b)))) (sortH F p q n D) 6) : evC gH I inH noHow Tryz.f32 [.v (.int .i64 a), .v (.int .i64 b), .p 3 0] (sortH F p q n D) 6 K := by
  refine And.intro ⟨rfl, rfl, rfl, trivial⟩ ?_
  refine And.intro ⟨rfl, rfl, rfl, trivial⟩ ?_
  refine And.intro ⟨lookP_in ip iq hs a hok, lookP_in ip iq hs b hok⟩ ?_
  exact hK
end Go.Proofs.YtcojfohjdibjjaaGreatDoor
