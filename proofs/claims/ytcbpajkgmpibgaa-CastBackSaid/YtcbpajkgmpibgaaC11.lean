/- Hits: what it yields; states. -/
import Derived.Test.YtcbpajkgmpibgaaK2
namespace Go.Proofs.Ytcbpajkgmpibgaa
open Go.RowKit

/-- Are the IDs, from the k-th on, not in order? -/
def unsN (F : Nat → Body) : Nat → Nat → Bool
  | _, 0 => false
  | k, r + 1 => match decide ((F k).iD ≤ (F (k - 1)).iD) with | true => true | false => unsN F (k + 1) r
theorem unsN_step {F : Nat → Body} {k n : Nat} (h : k < n) : unsN F k (n - k) = match decide ((F k).iD ≤ (F (k - 1)).iD) with | true => true | false => unsN F (k + 1) (n - (k + 1)) := by
  rw [show n - k = (n - (k + 1)) + 1 by omega]; rfl
theorem unsN_no {F : Nat → Body} : ∀ {r k : Nat}, unsN F k r = false → ∀ i, k ≤ i → i < k + r → (F (i - 1)).iD < (F i).iD
  | 0, k, _, i, h1, h2 => by omega
  | r + 1, k, h, i, h1, h2 => by
    simp only [unsN] at h
    split at h
    · cases h
    · rename_i hk
      have hk := of_decide_eq_false hk
      rcases Nat.eq_or_lt_of_le h1 with rfl | h1
      · omega
      · exact unsN_no h i h1 (by omega)
theorem unsN_of {F : Nat → Body} : ∀ {r k : Nat}, (∀ i, k ≤ i → i < k + r → (F (i - 1)).iD < (F i).iD) → unsN F k r = false
  | 0, k, _ => rfl
  | r + 1, k, h => by
    have := h k (Nat.le_refl _) (by omega)
    simp only [unsN, decide_eq_false (by omega : ¬ (F k).iD ≤ (F (k - 1)).iD)]
    exact unsN_of fun i h1 h2 => h i (by omega) (by omega)
def hitsErr (n : Nat) (F : Nat → Body) (p q : Vec) : Int := match unsN F 1 (n - 1) with
  | true => 2
  | false => match decide (64 < (n : Int)) with
    | true => 2
    | false => wrongE p q n F
def metB (F : Nat → Body) (p q : Vec) (k : Nat) : Bool := (whereP (F k) p q).2
def hasK (F : Nat → Body) (p q : Vec) : Nat → Int → Bool
  | 0, _ => false
  | k + 1, j => match metB F p q k with | true => decide (j = (F k).iD) || hasK F p q k j | false => hasK F p q k j
def plK (F : Nat → Body) (p q : Vec) : Nat → Int → Plc
  | 0, _ => ⟨0, 0, 0⟩
  | k + 1, j => match metB F p q k with | true => (match decide (j = (F k).iD) with | true => (whereP (F k) p q).1 | false => plK F p q k j) | false => plK F p q k j
def idsK (F : Nat → Body) (p q : Vec) : Nat → List Int
  | 0 => []
  | k + 1 => match metB F p q k with | true => idsK F p q k ++ [(F k).iD] | false => idsK F p q k
def ltK (n : Nat) (F : Nat → Body) (p q : Vec) (x y : Int) : Bool := decide (ordP (plK F p q n x) (plK F p q n y) < 0)
def hitsL (n : Nat) (F : Nat → Body) (p q : Vec) : List Int := sortL (ltK n F p q) (idsK F p q n)
def famL (l : List Int) : Fam := ⟨l.length, fun i => l.getD i 0⟩
def hitsE (n : Nat) (F : Nat → Body) (p q : Vec) : List Int := match decide (¬ hitsErr n F p q = 0) with
  | true => []
  | false => hitsL n F p q
def cellsI (l : List Int) : Nat → List SV := fun i => [.v (.int .i64 (l.getD i 0))]
theorem idsK_len {F : Nat → Body} {p q : Vec} : ∀ k, (idsK F p q k).length ≤ k
  | 0 => Nat.le_refl _
  | k + 1 => by
    have := idsK_len (F := F) (p := p) (q := q) k
    simp only [idsK]
    split
    · simp; omega
    · omega
theorem plK_no {F : Nat → Body} {p q : Vec} {j : Int} : ∀ {k}, hasK F p q k j = false → plK F p q k j = ⟨0, 0, 0⟩
  | 0, _ => rfl
  | k + 1, h => by
    simp only [hasK] at h
    simp only [plK]
    split at h
    · rename_i hm
      simp only [Bool.or_eq_false_iff] at h
      rw [h.1]
      exact plK_no h.2
    · exact plK_no h
theorem plK_in {F : Nat → Body} {p q : Vec} (hp : p.In) (hq : q.In) (hs : shortB p q = true) (j : Int) : ∀ {k}, (∀ i, i < k → (F i).ok = true) → (plK F p q k j).In
  | 0, _ => plcIn (by omega) (by omega)
  | k + 1, h => by
    simp only [plK]
    split
    · split
      · exact where_in (h k (by omega)) hp hq hs
      · exact plK_in hp hq hs j fun i hi => h i (by omega)
    · exact plK_in hp hq hs j fun i hi => h i (by omega)
/-- What the map yields. -/
def lookP (F : Nat → Body) (p q : Vec) (n : Nat) (j : Int) : Plc := ⟨bif hasK F p q n j then (plK F p q n j).n else 0, bif hasK F p q n j then (plK F p q n j).s else 0, bif hasK F p q n j then (plK F p q n j).m else 0⟩
theorem lookP_eq (F : Nat → Body) (p q : Vec) (n : Nat) (j : Int) : lookP F p q n j = plK F p q n j := by
  unfold lookP
  cases h : hasK F p q n j with
  | true => rfl
  | false => rw [plK_no h]; rfl
theorem idsK_yes {F : Nat → Body} {p q : Vec} {k : Nat} (h : metB F p q k = true) : idsK F p q (k + 1) = idsK F p q k ++ [(F k).iD] := by simp only [idsK, h]
theorem idsK_yes_len {F : Nat → Body} {p q : Vec} {k : Nat} (h : metB F p q k = true) : (idsK F p q (k + 1)).length = (idsK F p q k).length + 1 := by rw [idsK_yes h]; simp
theorem idsK_yes_get {F : Nat → Body} {p q : Vec} {k i : Nat} (h : metB F p q k = true) (hi : i < (idsK F p q k).length + 1) : (idsK F p q (k + 1)).getD i 0 = bif Nat.ble (idsK F p q k).length i then (F k).iD else (idsK F p q k).getD i 0 := by
  rw [idsK_yes h]
  simp only [List.getD_eq_getElem?_getD]
  rcases Nat.lt_or_ge i (idsK F p q k).length with h1 | h1
  · rw [List.getElem?_append_left h1, show Nat.ble (idsK F p q k).length i = false by cases hb : Nat.ble (idsK F p q k).length i with | false => rfl | true => exact absurd (Nat.le_of_ble_eq_true hb) (by omega)]
    rfl
  · rw [List.getElem?_append_right h1, show i - (idsK F p q k).length = 0 by omega, show Nat.ble (idsK F p q k).length i = true from Nat.ble_eq_true_of_le h1]
    rfl
theorem hasK_yes {F : Nat → Body} {p q : Vec} {k : Nat} (h : metB F p q k = true) (j : Int) : hasK F p q (k + 1) j = (decide (j = (F k).iD) || hasK F p q k j) := by simp only [hasK, h]
theorem plK_n {F : Nat → Body} {p q : Vec} {k : Nat} (h : metB F p q k = true) (j : Int) : (plK F p q (k + 1) j).n = bif decide (j = (F k).iD) then (whereP (F k) p q).1.n else (plK F p q k j).n := by simp only [plK, h]; cases decide (j = (F k).iD) <;> rfl
theorem plK_s {F : Nat → Body} {p q : Vec} {k : Nat} (h : metB F p q k = true) (j : Int) : (plK F p q (k + 1) j).s = bif decide (j = (F k).iD) then (whereP (F k) p q).1.s else (plK F p q k j).s := by simp only [plK, h]; cases decide (j = (F k).iD) <;> rfl
theorem plK_m {F : Nat → Body} {p q : Vec} {k : Nat} (h : metB F p q k = true) (j : Int) : (plK F p q (k + 1) j).m = bif decide (j = (F k).iD) then (whereP (F k) p q).1.m else (plK F p q k j).m := by simp only [plK, h]; cases decide (j = (F k).iD) <;> rfl
theorem idsK_nay {F : Nat → Body} {p q : Vec} {k : Nat} (h : metB F p q k = false) : idsK F p q (k + 1) = idsK F p q k := by simp only [idsK, h]
theorem hasK_nay {F : Nat → Body} {p q : Vec} {k : Nat} (h : metB F p q k = false) (j : Int) : hasK F p q (k + 1) j = hasK F p q k j := by simp only [hasK, h]
theorem plK_nay {F : Nat → Body} {p q : Vec} {k : Nat} (h : metB F p q k = false) (j : Int) : plK F p q (k + 1) j = plK F p q k j := by simp only [plK, h]
noncomputable def inSort : FnI cx := ⟨34, Try.call34, Try.f34, Try.func34, [], [], [], 0, by kernel_rfl⟩
noncomputable def inStable : FnI cx := ⟨54, Try.call54, Try.f54, Try.func54, [], [], [2], 2, by kernel_rfl⟩
noncomputable def inIns : FnI cx := ⟨66, Try.call66, Try.f66, Try.func66, [2004, 1004, 6], [], [1, 4], 0, by kernel_rfl⟩
noncomputable def inHits1 : FnI cx := ⟨35, Try.call35, Try.f35, Try.func35, [], [], [], 0, by kernel_rfl⟩
/-- The row while the i-th is put in. -/
def rowD (lt : Int → Int → Bool) (L : List Int) (i : Nat) : List Int := (isR lt (L.take i)).reverse ++ L.drop i
theorem rowD_len (lt : Int → Int → Bool) (L : List Int) (i : Nat) : (rowD lt L i).length = L.length := by
  simp only [rowD, List.length_append, List.length_reverse, isR_len, List.length_take, List.length_drop]; omega
theorem rowD_one (lt : Int → Int → Bool) (L : List Int) : rowD lt L 1 = L := by cases L <;> rfl
theorem rowD_all {lt : Int → Int → Bool} {L : List Int} {i : Nat} (h : L.length ≤ i) : rowD lt L i = sortL lt L := by
  unfold rowD sortL
  rw [List.take_of_length_le h, List.drop_eq_nil_of_le h, List.append_nil]
theorem rowD_step {lt : Int → Int → Bool} {L : List Int} {i : Nat} (h : i < L.length) : rowD lt L i = (L[i] :: isR lt (L.take i)).reverse ++ L.drop (i + 1) := by
  unfold rowD
  rw [List.reverse_cons, List.append_assoc, List.drop_eq_getElem_cons h]
  rfl
theorem rowD_next {lt : Int → Int → Bool} {L : List Int} {i : Nat} (h : i < L.length) {s r : List Int} (e : isR lt (L.take i) = s ++ r) (hs : ∀ y ∈ s, lt L[i] y = true) (hr : r = [] ∨ ∃ y r', r = y :: r' ∧ lt L[i] y = false) : rowD lt L (i + 1) = (s ++ L[i] :: r).reverse ++ L.drop (i + 1) := by
  unfold rowD
  rw [isR_take h, e, insR_app hs]
  congr 2
  rcases hr with rfl | ⟨y, r', rfl, hy⟩
  · rfl
  · simp only [insR, hy]
theorem revD (s r T : List Int) (x y : Int) : (s ++ x :: y :: r).reverse ++ T = r.reverse ++ y :: x :: (s.reverse ++ T) := by simp
theorem revD2 (s r T : List Int) (x y : Int) : ((s ++ [y]) ++ x :: r).reverse ++ T = r.reverse ++ x :: y :: (s.reverse ++ T) := by simp
theorem getD_at (A B : List Int) (x : Int) {k : Nat} (h : k = A.length) : (A ++ x :: B).getD k 0 = x := by
  subst h
  simp [List.getD_eq_getElem?_getD]
theorem getD_at1 (A B : List Int) (x y : Int) {k : Nat} (h : k = A.length + 1) : (A ++ x :: y :: B).getD k 0 = y := by
  subst h
  rw [swap_get, if_neg (by omega), if_pos rfl]
theorem beqT {a b : Nat} (h : a = b) : Nat.beq a b = true := by subst h; exact Nat.beq_refl a
theorem beqF {a b : Nat} (h : ¬ a = b) : Nat.beq a b = false := by
  cases e : Nat.beq a b with
  | false => rfl
  | true => exact absurd (Nat.eq_of_beq_eq_true e) h
theorem swapD (A B : List Int) (x y : Int) (k : Nat) : (A ++ x :: y :: B).getD k 0 = bif Nat.beq k A.length then x else bif Nat.beq k (A.length + 1) then y else (A ++ y :: x :: B).getD k 0 := by
  rw [swap_get]
  by_cases h1 : k = A.length
  · rw [if_pos h1, beqT h1]; rfl
  · rw [if_neg h1, beqF h1]
    by_cases h2 : k = A.length + 1
    · rw [if_pos h2, beqT h2]; rfl
    · rw [if_neg h2, beqF h2]; rfl
theorem lookP_in {F : Nat → Body} {p q : Vec} (hp : p.In) (hq : q.In) (hs : shortB p q = true) (j : Int) {k : Nat} (h : ∀ i, i < k → (F i).ok = true) : (lookP F p q k j).In := by
  rw [lookP_eq]; exact plK_in hp hq hs j h
/-- (A hypothesis that is not wanted is not brought into the context: its raw text slows all that reads the context.) -/
theorem imp_of {p q : Prop} (h : q) : p → q := fun _ => h
def sortH (F : Nat → Body) (p q : Vec) (n : Nat) (D : List Int) : Heap := [(0, .lay p.cells 28), (1, .lay q.cells 28), (2, .mp .i64 true (hasK F p q n) (fun j => (plK F p q n j).cells)), (3, .lay [.m 2] 74), (4, .lst 5 1 (idsK F p q n).length (cellsI D) 3)]
def sortCl : SV := .f (.func 35) [] [.p 3 0]
def stCut (F : Nat → Body) (p q : Vec) (n : Nat) : Cut := ⟨Nat × List Int, fun x => (x.1 = 0 ∧ x.2 = idsK F p q n ∧ (idsK F p q n).length < 20) ∨ (x.1 = 20 ∧ x.2 = sortL (ltK n F p q) (idsK F p q n) ∧ (idsK F p q n).length = 20),
  fun x => ⟨[sl 0 (.g 4 5 1 0 (idsK F p q n).length), sl 1 (.v (.int .i64 (idsK F p q n).length)), sl 2 sortCl, sl 6 (.v (.int .i64 20)), sl 7 (.v (.int .i64 x.1))], sortH F p q n x.2, 6, 0, [], []⟩, fun _ => 0⟩
def insCut (F : Nat → Body) (p q : Vec) (n a : Nat) : Cut := ⟨Nat, fun i => a + 1 ≤ i ∧ (i ≤ (idsK F p q n).length ∨ (idsK F p q n).length ≤ i),
  fun i => ⟨[sl 0 (.g 4 5 1 0 (idsK F p q n).length), sl 1 (.v (.int .i64 a)), sl 2 (.v (.int .i64 (idsK F p q n).length)), sl 3 sortCl, sl 8 (.v (.int .i64 i))], sortH F p q n (rowD (ltK n F p q) (idsK F p q n) i), 6, 0, [], []⟩, fun i => (idsK F p q n).length - i⟩
def inCut (F : Nat → Body) (p q : Vec) (n a i : Nat) (x : Int) : Cut := ⟨List Int × List Int, fun y => isR (ltK n F p q) ((idsK F p q n).take i) = y.1 ++ y.2 ∧ ∀ z ∈ y.1, ltK n F p q x z = true,
  fun y => ⟨[sl 0 (.g 4 5 1 0 (idsK F p q n).length), sl 1 (.v (.int .i64 a)), sl 2 (.v (.int .i64 (idsK F p q n).length)), sl 3 sortCl, sl 8 (.v (.int .i64 i)), sl 9 (.v (.int .i64 y.2.length))], sortH F p q n ((y.1 ++ x :: y.2).reverse ++ (idsK F p q n).drop (i + 1)), 6, 0, [], []⟩, fun y => y.2.length⟩
def hitCut1 (n : Nat) (F : Nat → Body) (p q : Vec) : Cut := ⟨Nat, fun k => 1 ≤ k ∧ k ≤ max n 1 ∧ unsN F 1 (n - 1) = unsN F k (n - k),
  fun k => ⟨[sl 0 (.rs 9 n fun i => (F i).cells), sl 4 (.p 0 0), sl 5 (.p 1 0), sl 8 (.v (.int .i64 k))], [(0, .lay p.cells 28), (1, .lay q.cells 28)], 2, 0, [], []⟩, fun k => n - k⟩
def hitCut2 (n : Nat) (F : Nat → Body) (p q : Vec) : Cut := ⟨Nat, fun k => k ≤ n,
  fun k => ⟨[sl 4 (.p 0 0), sl 5 (.p 1 0), sl 10 (.p 3 0), sl 11 (.g 4 5 1 0 (idsK F p q k).length), sl 45 (.rs 9 n fun i => (F i).cells), sl 46 (.v (.int .i64 n)), sl 47 (.v (.int .i64 k))],
    [(0, .lay p.cells 28), (1, .lay q.cells 28), (2, .mp .i64 true (hasK F p q k) (fun j => (plK F p q k j).cells)), (3, .lay [.m 2] 74), (4, .lst 5 1 (idsK F p q k).length (cellsI (idsK F p q k)) 3)], 6, 0, [], []⟩, fun k => n - k⟩
/-- A call's walk, whatever may be entered. -/
def evC {PP : Program} {C : Cx PP} (Γ : List (Con C)) (I : Inl) (inls : List Nat) (h : How) (fn : Func) (args : List SV) (H : Heap) (nm : Nat) (K : SV → Heap → Nat → Prop) : Prop :=
  match fn.body, Nat.ble args.length fn.ntmps with
  | some code, true => ev Γ fn.ntmps nm I inls h code ⟨argSlots 0 args, H, nm, 0, [], []⟩ (endK C fn.results.toList K)
  | _, _ => False
noncomputable def gH : List (Con cx) := [conWrong, conWhere, conOrd]
def inH : List Nat := [34, 54, 66, 35]
/-- The comparison, entered. -/
def CmpI (F : Nat → Body) (p q : Vec) (n : Nat) (I : Inl) : Prop := ∀ (a b : Int) (D : List Int) (K : SV → Heap → Nat → Prop), K (.v (.int .i64 (ordP (lookP F p q n a) (lookP F p q n b)))) (sortH F p q n D) 6 → I 35 [.v (.int .i64 a), .v (.int .i64 b), .p 3 0] (sortH F p q n D) 6 K
set_option maxHeartbeats 2000000 in
set_option maxRecDepth 8000 in
theorem hits1_ev {F : Nat → Body} {p q : Vec} {n : Nat} (ip : p.In) (iq : q.In) (hs : shortB p q = true) (hok : ∀ i, i < n → (F i).ok = true) (I : Inl) (a b : Int) (D : List Int) (K : SV → Heap → Nat → Prop)
    (hK : K (.v (.int .i64 (ordP (lookP F p q n a) (lookP F p q n b)))) (sortH F p q n D) 6) : evC gH I inH noHow Try.f35 [.v (.int .i64 a), .v (.int .i64 b), .p 3 0] (sortH F p q n D) 6 K := by
  refine And.intro ⟨rfl, rfl, rfl, trivial⟩ ?_
  refine And.intro ⟨rfl, rfl, rfl, trivial⟩ ?_
  refine And.intro ⟨lookP_in ip iq hs a hok, lookP_in ip iq hs b hok⟩ ?_
  exact hK
end Go.Proofs.Ytcbpajkgmpibgaa
