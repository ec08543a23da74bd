/- Meets, Part, Before. Before; lists of ids in order. Rows in order, by insertion. Hits: what it yields; states. The insertion sort, entered: whatever the comparison's walk is. The stable sort of at most 20 numbers, entered. Hits: the walk. -/
import Derived.Test.YtjdohgcolhpegaaGreatDoorM9
namespace Go.Proofs.YtjdohgcolhpegaaGreatDoor
open Go.RowKit

def oneB (b : Body) : Nat → Body := fun _ => b
def twoB (a b : Body) : Nat → Body
  | 0 => a
  | _ + 1 => b
def meetsB (b : Body) (p q : Vec) : Bool := match decide (¬ wrongE p q 1 (oneB b) = 0) with
  | true => false
  | false => (whereP b p q).2
theorem one_ok {b : Body} {p q : Vec} (h : wrongE p q 1 (oneB b) = 0) : p.In ∧ q.In ∧ b.ok = true ∧ shortB p q = true := by
  obtain ⟨h1, h2, h3, h4⟩ := wrongE_ok h
  exact ⟨h1, h2, h3 0 (by omega), h4⟩
theorem two_ok {a b : Body} {p q : Vec} (h : wrongE p q 2 (twoB a b) = 0) : p.In ∧ q.In ∧ a.ok = true ∧ b.ok = true ∧ shortB p q = true := by
  obtain ⟨h1, h2, h3, h4⟩ := wrongE_ok h
  exact ⟨h1, h2, h3 0 (by omega), h3 1 (by omega), h4⟩
theorem al9 {b : Body} : conjO (alikeCL rdBody.pat.al b.cells) := trivial
set_option maxHeartbeats 2000000 in
set_option maxRecDepth 8000 in
theorem Meets_walk : ∀ a, conj ((fun _ => []) a) → evFn (C := cx) [conWrong, conWhere] [] 0 noHow Tryz.f24 (((rds3 rdBody rdVec rdVec)).enc a) fun v H _ => resOut ((fun a => .v (.bool (meetsB a.1 a.2.1 a.2.2))) a) H v := by
  intro ⟨b, p, q⟩ _
  have one : ((1 : Nat) : Int) ≤ 1000000 := by decide
  refine And.intro ⟨one_al trivial, one⟩ ?_
  refine And.intro (fun h1 => ?_) (fun h1 => ?_)
  · have h1 : decide (¬ wrongE p q 1 (oneB b) = 0) = true := h1
    refine Eq.trans (a := meetsB b p q) ?_ rfl
    unfold meetsB; rw [h1]
  · have h1 : decide (¬ wrongE p q 1 (oneB b) = 0) = false := h1
    obtain ⟨k1, k2, k3, k4⟩ := one_ok (by simpa using h1)
    refine And.intro ⟨k3, k1, k2, k4⟩ ?_
    refine Eq.trans (a := meetsB b p q) (b := (whereP b p q).2) ?_ rfl
    unfold meetsB; rw [h1]
noncomputable def conMeets : Con cx := walkCon 24 Tryz.call24 (rds3 rdBody rdVec rdVec) (fun _ => []) (fun a => .v (.bool (meetsB a.1 a.2.1 a.2.2))) (fun _ => noHow) [] (fun _ => rfl) follows Tryz.func24 (by kernel_rfl) Meets_walk

/-- The first of n numbers for which something holds; n if there is none. -/
def firstF (f : Nat → Bool) : Nat → Nat → Nat
  | k, 0 => k
  | k, r + 1 => match f k with | true => k | false => firstF f (k + 1) r
theorem firstF_eq {f : Nat → Bool} : ∀ {r k i : Nat}, k ≤ i → i ≤ k + r → (∀ j, k ≤ j → j < i → f j = false) → (i = k + r ∨ f i = true) → firstF f k r = i
  | 0, k, i, h1, h2, _, _ => by simp only [firstF]; omega
  | r + 1, k, i, h1, h2, h3, h4 => by
    simp only [firstF]
    split
    · rename_i hk
      rcases Nat.eq_or_lt_of_le h1 with rfl | h1
      · rfl
      · rw [h3 k (Nat.le_refl _) h1] at hk; cases hk
    · rename_i hk
      rcases Nat.eq_or_lt_of_le h1 with rfl | h1
      · rcases h4 with h4 | h4
        · omega
        · rw [hk] at h4; cases h4
      · exact firstF_eq h1 (by omega) (fun j a b => h3 j (by omega) b) (h4.imp (fun h => by omega) id)
theorem firstF_le {f : Nat → Bool} : ∀ {r k : Nat}, k ≤ firstF f k r ∧ firstF f k r ≤ k + r
  | 0, k => by simp [firstF]
  | r + 1, k => by
    simp only [firstF]
    split
    · omega
    · have := firstF_le (f := f) (r := r) (k := k + 1); omega
theorem firstF_no {f : Nat → Bool} : ∀ {r k j : Nat}, k ≤ j → j < firstF f k r → f j = false
  | 0, k, j, h1, h2 => by simp only [firstF] at h2; omega
  | r + 1, k, j, h1, h2 => by
    simp only [firstF] at h2
    split at h2
    · omega
    · rename_i hk
      rcases Nat.eq_or_lt_of_le h1 with rfl | h1
      · exact hk
      · exact firstF_no h1 h2
theorem firstF_yes {f : Nat → Bool} : ∀ {r k : Nat}, firstF f k r < k + r → f (firstF f k r) = true
  | 0, k, h => by simp only [firstF] at h; omega
  | r + 1, k, h => by
    simp only [firstF] at h ⊢
    split
    · rename_i hk; exact hk
    · rename_i hk
      rw [hk] at h
      simp only at h
      exact firstF_yes (by omega)
/-- Is the place ahead of the part number i + 1? -/
def aheadB (w : Plc) (i : Nat) : Bool := decide (0 < ordP ⟨(i : Int) + 1, 0, 65536⟩ w)
theorem ahead_lt {w : Plc} (hs : 0 ≤ w.s) {i : Nat} : aheadB w i = true ↔ w.lt ((i : Int) + 1) 65536 := by
  unfold aheadB
  rw [decide_eq_true_eq, ← ordP_lt hs (by decide)]
  have := ordP_neg w ⟨(i : Int) + 1, 0, 65536⟩
  omega
theorem ahead_mono {w : Plc} (hs : 0 ≤ w.s) (hm : 0 < w.m) {i j : Nat} (h : i ≤ j) (k : aheadB w j = false) : aheadB w i = false := by
  cases hi : aheadB w i with
  | false => rfl
  | true =>
    rw [ahead_lt hs] at hi
    have : aheadB w j = true := (ahead_lt hs).2 (Plc.lt_mono hm (by decide) (by decide) hi (by omega))
    rw [k] at this; cases this
def partW (w : Plc) : Nat := firstF (aheadB w) 0 65536
def partE (b : Body) (p q : Vec) : Int × Int := match decide (¬ wrongE p q 1 (oneB b) = 0) with
  | true => (0, wrongE p q 1 (oneB b))
  | false => match !(whereP b p q).2 with
    | true => (0, 6)
    | false => (partW (whereP b p q).1, 0)
/-- What is met, lies at a proper place. -/
theorem where_pos {b : Body} {p q : Vec} (h : (whereP b p q).2 = true) : 0 < (whereP b p q).1.m ∧ 0 ≤ (whereP b p q).1.s := by
  unfold whereP at *
  split
  · rename_i h1
    rw [h1] at h
    obtain ⟨r, -⟩ := enter_yes h
    exact ⟨r.m, by have : (b.ent p q).1.s = 0 := r.s; omega⟩
  · rename_i h1
    rw [h1] at h
    split
    · exact ⟨by decide, by decide⟩
    · rename_i h2
      rw [h2] at h
      split
      · rename_i h3
        rw [h3] at h; cases h
      · rename_i h3
        obtain ⟨k1, -, k3⟩ := apart_of h3
        have : 0 ≤ segA p q := by unfold segA; have := sq_nn (q.x - p.x); have := sq_nn (q.y - p.y); omega
        exact ⟨by simp only; omega, k3⟩
theorem wi (n : Int) : IntKind.i64.wrap n = if 9223372036854775808 ≤ n % 18446744073709551616 then n % 18446744073709551616 - 18446744073709551616 else n % 18446744073709551616 := by
  unfold IntKind.wrap
  show (if (true && decide (n % 18446744073709551616 ≥ 9223372036854775808)) = true then _ else _) = _
  simp only [Bool.true_and, decide_eq_true_eq, ge_iff_le]
  rfl
theorem p1 : (2 : Int) ^ min (Int.toNat 1) IntKind.u64.bits = 2 := rfl
theorem fd2 (a : Int) : a.fdiv 2 = a / 2 := Int.fdiv_eq_ediv_of_nonneg a (by omega)
noncomputable def inSearch : FnI cx := ⟨64, Tryz.call64, Tryz.f64, Tryz.func64, [], [], [2], 0, by kernel_rfl⟩
noncomputable def inPart1 : FnI cx := ⟨65, Tryz.call65, Tryz.f65, Tryz.func65, [], [], [], 0, by kernel_rfl⟩
/-- The search: low ahead of what is sought, high behind it. -/
def seaCut (w : Plc) : Cut := ⟨Nat × Nat, fun x => x.1 ≤ x.2 ∧ x.2 ≤ 65536 ∧ (x.1 = 0 ∨ aheadB w (x.1 - 1) = false) ∧ (x.2 = 65536 ∨ aheadB w x.2 = true),
  fun x => ⟨[sl 1 (.f (.func 65) [] [.p 4 0]), sl 5 (.v (.int .i64 x.1)), sl 6 (.v (.int .i64 x.2))], [(4, .lay w.cells 116)], 5, 0, [], []⟩, fun x => x.2 - x.1⟩
set_option maxHeartbeats 2000000 in
set_option maxRecDepth 8000 in
theorem Part_walk : ∀ a, conj ((fun _ => []) a) → evFn (C := cx) [conWrong, conWhere, conOrd] [inSearch, inPart1] 2 noHow Tryz.f23 (((rds3 rdBody rdVec rdVec)).enc a) fun v H _ => resOut ((fun a => .tup [.v (.int .i64 (partE a.1 a.2.1 a.2.2).1), .v (.int .i64 (partE a.1 a.2.1 a.2.2).2)]) a) H v := by
  intro ⟨b, p, q⟩ _
  have one : ((1 : Nat) : Int) ≤ 1000000 := by decide
  refine And.intro ⟨one_al trivial, one⟩ ?_
  refine And.intro (fun h1 => ?_) (fun h1 => ?_)
  · have h1 : decide (¬ wrongE p q 1 (oneB b) = 0) = true := h1
    have he : partE b p q = (0, wrongE p q 1 (oneB b)) := by unfold partE; rw [h1]
    simp only [he]
    repeat' (first | (refine And.intro ?_ ?_) | (intro _) | exact rfl)
  have h1 : decide (¬ wrongE p q 1 (oneB b) = 0) = false := h1
  obtain ⟨k1, k2, k3, k4⟩ := one_ok (by simpa using h1)
  refine And.intro ⟨k3, k1, k2, k4⟩ ?_
  refine And.intro (fun h2 => ?_) (fun h2 => ?_)
  · have h2 : (!(whereP b p q).2) = true := h2
    have he : partE b p q = (0, 6) := by unfold partE; rw [h1, h2]
    simp only [he]
    repeat' (first | (refine And.intro ?_ ?_) | (intro _) | exact rfl)
  have h2 : (!(whereP b p q).2) = false := h2
  obtain ⟨hm, hs⟩ := where_pos (by simpa using h2)
  have hi := where_in k3 k1 k2 k4
  generalize hw : (whereP b p q).1 = w at *
  have he : partE b p q = ((partW w : Int), 0) := by unfold partE; rw [h1, h2, hw]
  simp only [he]
  refine Exists.intro (seaCut w) ?_
  refine And.intro ?_ ?_
  · refine ⟨((0 : Nat), (65536 : Nat)), [], [], trivial, ⟨(by decide : (0 : Nat) ≤ 65536), Nat.le_refl 65536, .inl rfl, .inl rfl⟩, ?_⟩
    repeat' (first | (refine And.intro ?_ ?_) | (intro _) | exact rfl)
    all_goals first | exact congrArg Plc.n hw.symm | exact congrArg Plc.s hw.symm | exact congrArg Plc.m hw.symm
  refine fun (x : Nat × Nat) (hx : x.1 ≤ x.2 ∧ x.2 ≤ 65536 ∧ (x.1 = 0 ∨ aheadB w (x.1 - 1) = false) ∧ (x.2 = 65536 ∨ aheadB w x.2 = true)) => ?_
  obtain ⟨i, j⟩ := x
  obtain ⟨x1, x2, x3, x4⟩ : i ≤ j ∧ j ≤ 65536 ∧ (i = 0 ∨ aheadB w (i - 1) = false) ∧ (j = 65536 ∨ aheadB w j = true) := hx
  refine And.intro (fun hb => ?_) (fun hb => ?_)
  · have hb : (i : Int) < j := of_decide_eq_true hb
    refine And.intro (by unfold I64; omega : I64 ((i : Int) + j)) ?_
    obtain ⟨h, hd⟩ : ∃ h, h = (i + j) / 2 := ⟨_, rfl⟩
    have hh : IntKind.i64.wrap ((IntKind.u64.wrap ((i : Int) + j)).fdiv (2 ^ min (Int.toNat 1) IntKind.u64.bits)) = (h : Int) := by
      rw [wu, p1, fd2, wi]
      split <;> omega
    have hi1 : Plc.In ⟨(h : Int) + 1, 0, 65536⟩ := plcIn (by omega) (by omega)
    have h64 : I64 ((h : Int) + 1) := by unfold I64; omega
    refine And.intro (show I64 (_ + 1) by rw [hh]; exact h64) ?_
    refine And.intro ⟨show Plc.In ⟨_ + 1, 0, 65536⟩ by rw [hh]; exact hi1, hi⟩ ?_
    refine And.intro (fun hc => ?_) (fun hc => ?_)
    · have hc : (!decide (0 < ordP ⟨IntKind.i64.wrap ((IntKind.u64.wrap ((i : Int) + j)).fdiv (2 ^ min (Int.toNat 1) IntKind.u64.bits)) + 1, 0, 65536⟩ w)) = true := hc
      rw [hh] at hc
      have hc : aheadB w h = false := by simpa [aheadB] using hc
      refine And.intro (show I64 (_ + 1) by rw [hh]; exact h64) ?_
      refine ⟨(h + 1, j), [], [], (by show j - (h + 1) < j - i; omega), ⟨(by omega : h + 1 ≤ j), x2, .inr hc, x4⟩, ?_⟩
      repeat' (first | (refine And.intro ?_ ?_) | (intro _) | exact rfl)
      all_goals (show ((h + 1 : Nat) : Int) = _ + 1; rw [hh]; rfl)
    · have hc : (!decide (0 < ordP ⟨IntKind.i64.wrap ((IntKind.u64.wrap ((i : Int) + j)).fdiv (2 ^ min (Int.toNat 1) IntKind.u64.bits)) + 1, 0, 65536⟩ w)) = false := hc
      rw [hh] at hc
      have hc : aheadB w h = true := by simpa [aheadB] using hc
      refine ⟨(i, h), [], [], (by show h - i < j - i; omega), ⟨(by omega : i ≤ h), (by omega : h ≤ 65536), x3, .inr hc⟩, ?_⟩
      repeat' (first | (refine And.intro ?_ ?_) | (intro _) | exact rfl)
      all_goals exact hh.symm
  · have hb : ¬ (i : Int) < j := of_decide_eq_false hb
    have e : partW w = i := firstF_eq (Nat.zero_le _) (by omega) (fun k _ hk => by
      rcases x3 with x3 | x3
      · omega
      · exact ahead_mono hs hm (by omega) x3) (x4.imp (fun h => by omega) (fun h => by rw [show i = j by omega]; exact h))
    rw [e]
    repeat' (first | (refine And.intro ?_ ?_) | (intro _) | exact rfl)
noncomputable def conPart : Con cx := walkCon 23 Tryz.call23 (rds3 rdBody rdVec rdVec) (fun _ => []) (fun a => .tup [.v (.int .i64 (partE a.1 a.2.1 a.2.2).1), .v (.int .i64 (partE a.1 a.2.1 a.2.2).2)]) (fun _ => noHow) [] (fun _ => rfl) follows Tryz.func23 (by kernel_rfl) Part_walk
end Go.Proofs.YtjdohgcolhpegaaGreatDoor
namespace Go.Proofs.YtjdohgcolhpegaaGreatDoor
open Go.RowKit

def beforeE (a b : Body) (p q : Vec) : Int × Int := match decide (¬ wrongE p q 2 (twoB a b) = 0) with
  | true => (0, wrongE p q 2 (twoB a b))
  | false => match !(whereP a p q).2 || !(whereP b p q).2 with
    | true => (0, 6)
    | false => (ordP (whereP a p q).1 (whereP b p q).1, 0)
set_option maxHeartbeats 2000000 in
set_option maxRecDepth 8000 in
theorem Before_walk : ∀ a, conj ((fun _ => []) a) → evFn (C := cx) [conWrong, conWhere, conOrd] [] 0 noHow Tryz.f25 (((rds4 rdBody rdBody rdVec rdVec)).enc a) fun v H _ => resOut ((fun a => .tup [.v (.int .i64 (beforeE a.1 a.2.1 a.2.2.1 a.2.2.2).1), .v (.int .i64 (beforeE a.1 a.2.1 a.2.2.1 a.2.2.2).2)]) a) H v := by
  intro ⟨a, b, p, q⟩ _
  have two : ((2 : Nat) : Int) ≤ 1000000 := by decide
  refine And.intro ⟨two_al trivial trivial, two⟩ ?_
  refine And.intro (fun h1 => ?_) (fun h1 => ?_)
  · have h1 : decide (¬ wrongE p q 2 (twoB a b) = 0) = true := h1
    have he : beforeE a b p q = (0, wrongE p q 2 (twoB a b)) := by unfold beforeE; rw [h1]
    simp only [he]
    repeat' (first | (refine And.intro ?_ ?_) | (intro _) | exact rfl)
  have h1 : decide (¬ wrongE p q 2 (twoB a b) = 0) = false := h1
  obtain ⟨k1, k2, k3, k4, k5⟩ := two_ok (by simpa using h1)
  refine And.intro ⟨k3, k1, k2, k5⟩ ?_
  refine And.intro ⟨k4, k1, k2, k5⟩ ?_
  refine And.intro (fun h2 => ?_) (fun h2 => ?_)
  · have h2 : (!(whereP a p q).2 || !(whereP b p q).2) = true := h2
    have he : beforeE a b p q = (0, 6) := by unfold beforeE; rw [h1, h2]
    simp only [he]
    repeat' (first | (refine And.intro ?_ ?_) | (intro _) | exact rfl)
  have h2 : (!(whereP a p q).2 || !(whereP b p q).2) = false := h2
  have he : beforeE a b p q = (ordP (whereP a p q).1 (whereP b p q).1, 0) := by unfold beforeE; rw [h1, h2]
  simp only [he]
  refine And.intro ⟨where_in k3 k1 k2 k5, where_in k4 k1 k2 k5⟩ ?_
  repeat' (first | (refine And.intro ?_ ?_) | (intro _) | exact rfl)
noncomputable def conBefore : Con cx := walkCon 25 Tryz.call25 (rds4 rdBody rdBody rdVec rdVec) (fun _ => []) (fun a => .tup [.v (.int .i64 (beforeE a.1 a.2.1 a.2.2.1 a.2.2.2).1), .v (.int .i64 (beforeE a.1 a.2.1 a.2.2.1 a.2.2.2).2)]) (fun _ => noHow) [] (fun _ => rfl) follows Tryz.func25 (by kernel_rfl) Before_walk
end Go.Proofs.YtjdohgcolhpegaaGreatDoor
namespace Go.Proofs.YtjdohgcolhpegaaGreatDoor

/-- x is put into a row (the last first): ahead of all that it is less than. -/
def insR (lt : Int → Int → Bool) : List Int → Int → List Int
  | [], x => [x]
  | y :: r, x => match lt x y with | true => y :: insR lt r x | false => x :: y :: r
def isR (lt : Int → Int → Bool) (l : List Int) : List Int := l.foldl (insR lt) []
/-- A row in order, stably. -/
def sortL (lt : Int → Int → Bool) (l : List Int) : List Int := (isR lt l).reverse
section
variable {lt : Int → Int → Bool}
theorem insR_len : ∀ (r : List Int) (x : Int), (insR lt r x).length = r.length + 1
  | [], x => rfl
  | y :: r, x => by
    simp only [insR]
    split
    · simp [insR_len r x]
    · simp
theorem foldl_insR_len : ∀ (l r : List Int), (l.foldl (insR lt) r).length = l.length + r.length
  | [], r => by simp
  | x :: l, r => by
    rw [List.foldl_cons, foldl_insR_len l, insR_len]
    simp only [List.length_cons]
    omega
theorem isR_len (l : List Int) : (isR lt l).length = l.length := by simp [isR, foldl_insR_len]
theorem sortL_len (l : List Int) : (sortL lt l).length = l.length := by simp [sortL, isR_len]
theorem isR_take {l : List Int} {i : Nat} (h : i < l.length) : isR lt (l.take (i + 1)) = insR lt (isR lt (l.take i)) l[i] := by
  unfold isR
  rw [List.take_add_one, List.getElem?_eq_getElem h, List.foldl_append]
  rfl
theorem insR_app {s r : List Int} {x : Int} (h : ∀ y ∈ s, lt x y = true) : insR lt (s ++ r) x = s ++ insR lt r x := by
  induction s with
  | nil => rfl
  | cons y s ih =>
    simp only [List.cons_append, insR, h y List.mem_cons_self]
    rw [ih fun z hz => h z (List.mem_cons_of_mem _ hz)]
theorem insR_mem {r : List Int} {x y : Int} : y ∈ insR lt r x ↔ y = x ∨ y ∈ r := by
  induction r with
  | nil => simp [insR]
  | cons z r ih =>
    simp only [insR]
    split
    · rw [List.mem_cons, ih, List.mem_cons]; constructor <;> (intro h; rcases h with h | h | h <;> simp [h])
    · simp [List.mem_cons]
theorem foldl_insR_mem {y : Int} : ∀ (l r : List Int), y ∈ l.foldl (insR lt) r ↔ y ∈ l ∨ y ∈ r
  | [], r => by simp
  | x :: l, r => by
    rw [List.foldl_cons, foldl_insR_mem l, insR_mem, List.mem_cons]
    constructor
    · rintro (h | h | h) <;> simp [h]
    · rintro ((h | h) | h) <;> simp [h]
theorem sortL_mem {l : List Int} {y : Int} : y ∈ sortL lt l ↔ y ∈ l := by simp [sortL, isR, foldl_insR_mem]
/-- Neighbours are in order; y comes ahead of x. -/
def Nb (lt : Int → Int → Bool) (R : Int → Int → Prop) : List Int → Prop
  | [] => True
  | [_] => True
  | x :: y :: r => R y x ∧ Nb lt R (y :: r)
theorem Nb.tail {R : Int → Int → Prop} {x : Int} {r : List Int} (h : Nb lt R (x :: r)) : Nb lt R r := by
  cases r with
  | nil => trivial
  | cons y r => exact h.2
theorem insR_nb {R : Int → Int → Prop} {x : Int} (h1 : ∀ y, lt x y = true → R x y) : ∀ {r : List Int}, (∀ y ∈ r, lt x y = false → R y x) → Nb lt R r → Nb lt R (insR lt r x)
  | [], _, _ => trivial
  | y :: r, h2, hn => by
    simp only [insR]
    split
    · rename_i hy
      have ih := insR_nb h1 (r := r) (fun z hz => h2 z (List.mem_cons_of_mem _ hz)) hn.tail
      cases r with
      | nil => exact ⟨h1 y hy, trivial⟩
      | cons z r =>
        simp only [insR] at ih ⊢
        split
        · rename_i hz
          rw [hz] at ih
          exact ⟨hn.1, ih⟩
        · rename_i hz
          rw [hz] at ih
          exact ⟨h1 y hy, ih⟩
    · rename_i hy
      exact ⟨h2 y List.mem_cons_self hy, hn⟩
theorem foldl_nb {R : Int → Int → Prop} (h1 : ∀ x y, lt x y = true → R x y) : ∀ (l r : List Int), (∀ y ∈ r, ∀ x ∈ l, lt x y = false → R y x) → List.Pairwise (fun y x => lt x y = false → R y x) l → Nb lt R r → Nb lt R (l.foldl (insR lt) r)
  | [], r, _, _, hn => hn
  | x :: l, r, h2, hp, hn => by
    rw [List.foldl_cons]
    refine foldl_nb h1 l _ (fun y hy z hz => ?_) (List.pairwise_cons.1 hp).2 (insR_nb (h1 x) (fun y hy => h2 y hy x List.mem_cons_self) hn)
    rcases insR_mem.1 hy with rfl | hy
    · exact (List.pairwise_cons.1 hp).1 z hz
    · exact h2 y hy z (List.mem_cons_of_mem _ hz)
theorem nb_get {R : Int → Int → Prop} : ∀ {r : List Int} (_ : Nb lt R r) {i : Nat} (h : i + 1 < r.length), R r[i + 1] r[i]
  | [], _, i, h => by simp at h
  | [_], _, i, h => by simp at h
  | x :: y :: r, hn, 0, h => hn.1
  | x :: y :: r, hn, i + 1, h => nb_get (r := y :: r) hn.2 (by simpa using h)
/-- In the row in order, of two neighbours the first one comes rightly ahead. -/
theorem sortL_nb {R : Int → Int → Prop} (h1 : ∀ x y, lt x y = true → R x y) {l : List Int} (hp : List.Pairwise (fun y x => lt x y = false → R y x) l) {i : Nat} (h : i + 1 < (sortL lt l).length) : R (sortL lt l)[i] (sortL lt l)[i + 1] := by
  have hn : Nb lt R (isR lt l) := foldl_nb h1 l [] (fun y hy => by cases hy) hp trivial
  have hl : (sortL lt l).length = (isR lt l).length := by simp [sortL]
  have h' : i + 1 < (isR lt l).length := by omega
  have k := nb_get hn (i := (isR lt l).length - 1 - (i + 1)) (by omega)
  have e1 : (sortL lt l)[i]'(by omega) = (isR lt l)[(isR lt l).length - 1 - i]'(by omega) := by simp [sortL, List.getElem_reverse]
  have e2 : (sortL lt l)[i + 1] = (isR lt l)[(isR lt l).length - 1 - (i + 1)]'(by omega) := by simp [sortL, List.getElem_reverse]
  rw [e1, e2]
  have e3 : (isR lt l).length - 1 - (i + 1) + 1 = (isR lt l).length - 1 - i := by omega
  simp only [e3] at k
  exact k
end
/-- Two neighbours change places. -/
theorem swap_get (A B : List Int) (x y : Int) (k : Nat) : (A ++ x :: y :: B).getD k 0 = if k = A.length then x else if k = A.length + 1 then y else (A ++ y :: x :: B).getD k 0 := by
  simp only [List.getD_eq_getElem?_getD]
  rcases Nat.lt_or_ge k A.length with h | h
  · rw [if_neg (by omega), if_neg (by omega), List.getElem?_append_left h, List.getElem?_append_left h]
  · rw [List.getElem?_append_right h, List.getElem?_append_right h]
    obtain ⟨m, rfl⟩ : ∃ m, k = A.length + m := ⟨k - A.length, by omega⟩
    rw [Nat.add_sub_cancel_left]
    match m with
    | 0 => simp
    | 1 => simp
    | m + 2 => simp
end Go.Proofs.YtjdohgcolhpegaaGreatDoor
namespace Go.Proofs.YtjdohgcolhpegaaGreatDoor
open Go.RowKit

/-- Are the IDs, from the k-th on, not in order? -/
def unsN (F : Nat → Body) : Nat → Nat → Bool
  | _, 0 => false
  | k, r + 1 => match decide ((F k).iD ≤ (F (k - 1)).iD) with | true => true | false => unsN F (k + 1) r
theorem unsN_step {F : Nat → Body} {k n : Nat} (h : k < n) : unsN F k (n - k) = match decide ((F k).iD ≤ (F (k - 1)).iD) with | true => true | false => unsN F (k + 1) (n - (k + 1)) := by
  rw [show n - k = (n - (k + 1)) + 1 by omega]; rfl
theorem unsN_no {F : Nat → Body} : ∀ {r k : Nat}, unsN F k r = false → ∀ i, k ≤ i → i < k + r → (F (i - 1)).iD < (F i).iD
  | 0, k, _, i, h1, h2 => by omega
  | r + 1, k, h, i, h1, h2 => by
    simp only [unsN] at h
    split at h
    · cases h
    · rename_i hk
      have hk := of_decide_eq_false hk
      rcases Nat.eq_or_lt_of_le h1 with rfl | h1
      · omega
      · exact unsN_no h i h1 (by omega)
theorem unsN_of {F : Nat → Body} : ∀ {r k : Nat}, (∀ i, k ≤ i → i < k + r → (F (i - 1)).iD < (F i).iD) → unsN F k r = false
  | 0, k, _ => rfl
  | r + 1, k, h => by
    have := h k (Nat.le_refl _) (by omega)
    simp only [unsN, decide_eq_false (by omega : ¬ (F k).iD ≤ (F (k - 1)).iD)]
    exact unsN_of fun i h1 h2 => h i (by omega) (by omega)
def hitsErr (n : Nat) (F : Nat → Body) (p q : Vec) : Int := match unsN F 1 (n - 1) with
  | true => 2
  | false => match decide (64 < (n : Int)) with
    | true => 2
    | false => wrongE p q n F
def metB (F : Nat → Body) (p q : Vec) (k : Nat) : Bool := (whereP (F k) p q).2
def hasK (F : Nat → Body) (p q : Vec) : Nat → Int → Bool
  | 0, _ => false
  | k + 1, j => match metB F p q k with | true => decide (j = (F k).iD) || hasK F p q k j | false => hasK F p q k j
def plK (F : Nat → Body) (p q : Vec) : Nat → Int → Plc
  | 0, _ => ⟨0, 0, 0⟩
  | k + 1, j => match metB F p q k with | true => (match decide (j = (F k).iD) with | true => (whereP (F k) p q).1 | false => plK F p q k j) | false => plK F p q k j
def idsK (F : Nat → Body) (p q : Vec) : Nat → List Int
  | 0 => []
  | k + 1 => match metB F p q k with | true => idsK F p q k ++ [(F k).iD] | false => idsK F p q k
def ltK (n : Nat) (F : Nat → Body) (p q : Vec) (x y : Int) : Bool := decide (ordP (plK F p q n x) (plK F p q n y) < 0)
def hitsL (n : Nat) (F : Nat → Body) (p q : Vec) : List Int := sortL (ltK n F p q) (idsK F p q n)
def famL (l : List Int) : Fam := ⟨l.length, fun i => l.getD i 0⟩
def hitsE (n : Nat) (F : Nat → Body) (p q : Vec) : List Int := match decide (¬ hitsErr n F p q = 0) with
  | true => []
  | false => hitsL n F p q
def cellsI (l : List Int) : Nat → List SV := fun i => [.v (.int .i64 (l.getD i 0))]
theorem idsK_len {F : Nat → Body} {p q : Vec} : ∀ k, (idsK F p q k).length ≤ k
  | 0 => Nat.le_refl _
  | k + 1 => by
    have := idsK_len (F := F) (p := p) (q := q) k
    simp only [idsK]
    split
    · simp; omega
    · omega
theorem plK_no {F : Nat → Body} {p q : Vec} {j : Int} : ∀ {k}, hasK F p q k j = false → plK F p q k j = ⟨0, 0, 0⟩
  | 0, _ => rfl
  | k + 1, h => by
    simp only [hasK] at h
    simp only [plK]
    split at h
    · rename_i hm
      simp only [Bool.or_eq_false_iff] at h
      rw [h.1]
      exact plK_no h.2
    · exact plK_no h
theorem plK_in {F : Nat → Body} {p q : Vec} (hp : p.In) (hq : q.In) (hs : shortB p q = true) (j : Int) : ∀ {k}, (∀ i, i < k → (F i).ok = true) → (plK F p q k j).In
  | 0, _ => plcIn (by omega) (by omega)
  | k + 1, h => by
    simp only [plK]
    split
    · split
      · exact where_in (h k (by omega)) hp hq hs
      · exact plK_in hp hq hs j fun i hi => h i (by omega)
    · exact plK_in hp hq hs j fun i hi => h i (by omega)
/-- What the map yields. -/
def lookP (F : Nat → Body) (p q : Vec) (n : Nat) (j : Int) : Plc := ⟨bif hasK F p q n j then (plK F p q n j).n else 0, bif hasK F p q n j then (plK F p q n j).s else 0, bif hasK F p q n j then (plK F p q n j).m else 0⟩
theorem lookP_eq (F : Nat → Body) (p q : Vec) (n : Nat) (j : Int) : lookP F p q n j = plK F p q n j := by
  unfold lookP
  cases h : hasK F p q n j with
  | true => rfl
  | false => rw [plK_no h]; rfl
theorem idsK_yes {F : Nat → Body} {p q : Vec} {k : Nat} (h : metB F p q k = true) : idsK F p q (k + 1) = idsK F p q k ++ [(F k).iD] := by simp only [idsK, h]
theorem idsK_yes_len {F : Nat → Body} {p q : Vec} {k : Nat} (h : metB F p q k = true) : (idsK F p q (k + 1)).length = (idsK F p q k).length + 1 := by rw [idsK_yes h]; simp
theorem idsK_yes_get {F : Nat → Body} {p q : Vec} {k i : Nat} (h : metB F p q k = true) (hi : i < (idsK F p q k).length + 1) : (idsK F p q (k + 1)).getD i 0 = bif Nat.ble (idsK F p q k).length i then (F k).iD else (idsK F p q k).getD i 0 := by
  rw [idsK_yes h]
  simp only [List.getD_eq_getElem?_getD]
  rcases Nat.lt_or_ge i (idsK F p q k).length with h1 | h1
  · rw [List.getElem?_append_left h1, show Nat.ble (idsK F p q k).length i = false by cases hb : Nat.ble (idsK F p q k).length i with | false => rfl | true => exact absurd (Nat.le_of_ble_eq_true hb) (by omega)]
    rfl
  · rw [List.getElem?_append_right h1, show i - (idsK F p q k).length = 0 by omega, show Nat.ble (idsK F p q k).length i = true from Nat.ble_eq_true_of_le h1]
    rfl
theorem hasK_yes {F : Nat → Body} {p q : Vec} {k : Nat} (h : metB F p q k = true) (j : Int) : hasK F p q (k + 1) j = (decide (j = (F k).iD) || hasK F p q k j) := by simp only [hasK, h]
theorem plK_n {F : Nat → Body} {p q : Vec} {k : Nat} (h : metB F p q k = true) (j : Int) : (plK F p q (k + 1) j).n = bif decide (j = (F k).iD) then (whereP (F k) p q).1.n else (plK F p q k j).n := by simp only [plK, h]; cases decide (j = (F k).iD) <;> rfl
theorem plK_s {F : Nat → Body} {p q : Vec} {k : Nat} (h : metB F p q k = true) (j : Int) : (plK F p q (k + 1) j).s = bif decide (j = (F k).iD) then (whereP (F k) p q).1.s else (plK F p q k j).s := by simp only [plK, h]; cases decide (j = (F k).iD) <;> rfl
theorem plK_m {F : Nat → Body} {p q : Vec} {k : Nat} (h : metB F p q k = true) (j : Int) : (plK F p q (k + 1) j).m = bif decide (j = (F k).iD) then (whereP (F k) p q).1.m else (plK F p q k j).m := by simp only [plK, h]; cases decide (j = (F k).iD) <;> rfl
theorem idsK_nay {F : Nat → Body} {p q : Vec} {k : Nat} (h : metB F p q k = false) : idsK F p q (k + 1) = idsK F p q k := by simp only [idsK, h]
theorem hasK_nay {F : Nat → Body} {p q : Vec} {k : Nat} (h : metB F p q k = false) (j : Int) : hasK F p q (k + 1) j = hasK F p q k j := by simp only [hasK, h]
theorem plK_nay {F : Nat → Body} {p q : Vec} {k : Nat} (h : metB F p q k = false) (j : Int) : plK F p q (k + 1) j = plK F p q k j := by simp only [plK, h]
noncomputable def inSort : FnI cx := ⟨103, Tryz.call103, Tryz.f103, Tryz.func103, [], [], [], 0, by kernel_rfl⟩
noncomputable def inStable : FnI cx := ⟨123, Tryz.call123, Tryz.f123, Tryz.func123, [], [], [2], 2, by kernel_rfl⟩
noncomputable def inIns : FnI cx := ⟨133, Tryz.call133, Tryz.f133, Tryz.func133, [2004, 1004, 6], [], [1, 4], 0, by kernel_rfl⟩
noncomputable def inHits1 : FnI cx := ⟨104, Tryz.call104, Tryz.f104, Tryz.func104, [], [], [], 0, by kernel_rfl⟩
/-- The row while the i-th is put in. -/
def rowD (lt : Int → Int → Bool) (L : List Int) (i : Nat) : List Int := (isR lt (L.take i)).reverse ++ L.drop i
theorem rowD_len (lt : Int → Int → Bool) (L : List Int) (i : Nat) : (rowD lt L i).length = L.length := by
  simp only [rowD, List.length_append, List.length_reverse, isR_len, List.length_take, List.length_drop]; omega
theorem rowD_one (lt : Int → Int → Bool) (L : List Int) : rowD lt L 1 = L := by cases L <;> rfl
theorem rowD_all {lt : Int → Int → Bool} {L : List Int} {i : Nat} (h : L.length ≤ i) : rowD lt L i = sortL lt L := by
  unfold rowD sortL
  rw [List.take_of_length_le h, List.drop_eq_nil_of_le h, List.append_nil]
theorem rowD_step {lt : Int → Int → Bool} {L : List Int} {i : Nat} (h : i < L.length) : rowD lt L i = (L[i] :: isR lt (L.take i)).reverse ++ L.drop (i + 1) := by
  unfold rowD
  rw [List.reverse_cons, List.append_assoc, List.drop_eq_getElem_cons h]
  rfl
theorem rowD_next {lt : Int → Int → Bool} {L : List Int} {i : Nat} (h : i < L.length) {s r : List Int} (e : isR lt (L.take i) = s ++ r) (hs : ∀ y ∈ s, lt L[i] y = true) (hr : r = [] ∨ ∃ y r', r = y :: r' ∧ lt L[i] y = false) : rowD lt L (i + 1) = (s ++ L[i] :: r).reverse ++ L.drop (i + 1) := by
  unfold rowD
  rw [isR_take h, e, insR_app hs]
  congr 2
  rcases hr with rfl | ⟨y, r', rfl, hy⟩
  · rfl
  · simp only [insR, hy]
theorem revD (s r T : List Int) (x y : Int) : (s ++ x :: y :: r).reverse ++ T = r.reverse ++ y :: x :: (s.reverse ++ T) := by simp
theorem revD2 (s r T : List Int) (x y : Int) : ((s ++ [y]) ++ x :: r).reverse ++ T = r.reverse ++ x :: y :: (s.reverse ++ T) := by simp
theorem getD_at (A B : List Int) (x : Int) {k : Nat} (h : k = A.length) : (A ++ x :: B).getD k 0 = x := by
  subst h
  simp [List.getD_eq_getElem?_getD]
theorem getD_at1 (A B : List Int) (x y : Int) {k : Nat} (h : k = A.length + 1) : (A ++ x :: y :: B).getD k 0 = y := by
  subst h
  rw [swap_get, if_neg (by omega), if_pos rfl]
theorem beqT {a b : Nat} (h : a = b) : Nat.beq a b = true := by subst h; exact Nat.beq_refl a
theorem beqF {a b : Nat} (h : ¬ a = b) : Nat.beq a b = false := by
  cases e : Nat.beq a b with
  | false => rfl
  | true => exact absurd (Nat.eq_of_beq_eq_true e) h
theorem swapD (A B : List Int) (x y : Int) (k : Nat) : (A ++ x :: y :: B).getD k 0 = bif Nat.beq k A.length then x else bif Nat.beq k (A.length + 1) then y else (A ++ y :: x :: B).getD k 0 := by
  rw [swap_get]
  by_cases h1 : k = A.length
  · rw [if_pos h1, beqT h1]; rfl
  · rw [if_neg h1, beqF h1]
    by_cases h2 : k = A.length + 1
    · rw [if_pos h2, beqT h2]; rfl
    · rw [if_neg h2, beqF h2]; rfl
theorem lookP_in {F : Nat → Body} {p q : Vec} (hp : p.In) (hq : q.In) (hs : shortB p q = true) (j : Int) {k : Nat} (h : ∀ i, i < k → (F i).ok = true) : (lookP F p q k j).In := by
  rw [lookP_eq]; exact plK_in hp hq hs j h
/-- (A hypothesis that is not wanted is not brought into the context: its raw text slows all that reads the context.) -/
theorem imp_of {p q : Prop} (h : q) : p → q := fun _ => h
def sortH (F : Nat → Body) (p q : Vec) (n : Nat) (D : List Int) : Heap := [(0, .lay p.cells 27), (1, .lay q.cells 27), (2, .mp .i64 true (hasK F p q n) (fun j => (plK F p q n j).cells)), (3, .lay [.m 2] 162), (4, .lst 5 1 (idsK F p q n).length (cellsI D) 3)]
def sortCl : SV := .f (.func 104) [] [.p 3 0]
def stCut (F : Nat → Body) (p q : Vec) (n : Nat) : Cut := ⟨Nat × List Int, fun x => (x.1 = 0 ∧ x.2 = idsK F p q n ∧ (idsK F p q n).length < 20) ∨ (x.1 = 20 ∧ x.2 = sortL (ltK n F p q) (idsK F p q n) ∧ (idsK F p q n).length = 20),
  fun x => ⟨[sl 0 (.g 4 5 1 0 (idsK F p q n).length), sl 1 (.v (.int .i64 (idsK F p q n).length)), sl 2 sortCl, sl 6 (.v (.int .i64 20)), sl 7 (.v (.int .i64 x.1))], sortH F p q n x.2, 6, 0, [], []⟩, fun _ => 0⟩
def insCut (F : Nat → Body) (p q : Vec) (n a : Nat) : Cut := ⟨Nat, fun i => a + 1 ≤ i ∧ (i ≤ (idsK F p q n).length ∨ (idsK F p q n).length ≤ i),
  fun i => ⟨[sl 0 (.g 4 5 1 0 (idsK F p q n).length), sl 1 (.v (.int .i64 a)), sl 2 (.v (.int .i64 (idsK F p q n).length)), sl 3 sortCl, sl 8 (.v (.int .i64 i))], sortH F p q n (rowD (ltK n F p q) (idsK F p q n) i), 6, 0, [], []⟩, fun i => (idsK F p q n).length - i⟩
def inCut (F : Nat → Body) (p q : Vec) (n a i : Nat) (x : Int) : Cut := ⟨List Int × List Int, fun y => isR (ltK n F p q) ((idsK F p q n).take i) = y.1 ++ y.2 ∧ ∀ z ∈ y.1, ltK n F p q x z = true,
  fun y => ⟨[sl 0 (.g 4 5 1 0 (idsK F p q n).length), sl 1 (.v (.int .i64 a)), sl 2 (.v (.int .i64 (idsK F p q n).length)), sl 3 sortCl, sl 8 (.v (.int .i64 i)), sl 9 (.v (.int .i64 y.2.length))], sortH F p q n ((y.1 ++ x :: y.2).reverse ++ (idsK F p q n).drop (i + 1)), 6, 0, [], []⟩, fun y => y.2.length⟩
def hitCut1 (n : Nat) (F : Nat → Body) (p q : Vec) : Cut := ⟨Nat, fun k => 1 ≤ k ∧ k ≤ max n 1 ∧ unsN F 1 (n - 1) = unsN F k (n - k),
  fun k => ⟨[sl 0 (.rs 9 n fun i => (F i).cells), sl 4 (.p 0 0), sl 5 (.p 1 0), sl 8 (.v (.int .i64 k))], [(0, .lay p.cells 27), (1, .lay q.cells 27)], 2, 0, [], []⟩, fun k => n - k⟩
def hitCut2 (n : Nat) (F : Nat → Body) (p q : Vec) : Cut := ⟨Nat, fun k => k ≤ n,
  fun k => ⟨[sl 4 (.p 0 0), sl 5 (.p 1 0), sl 10 (.p 3 0), sl 11 (.g 4 5 1 0 (idsK F p q k).length), sl 45 (.rs 9 n fun i => (F i).cells), sl 46 (.v (.int .i64 n)), sl 47 (.v (.int .i64 k))],
    [(0, .lay p.cells 27), (1, .lay q.cells 27), (2, .mp .i64 true (hasK F p q k) (fun j => (plK F p q k j).cells)), (3, .lay [.m 2] 162), (4, .lst 5 1 (idsK F p q k).length (cellsI (idsK F p q k)) 3)], 6, 0, [], []⟩, fun k => n - k⟩
/-- A call's walk, whatever may be entered. -/
def evC {PP : Program} {C : Cx PP} (Γ : List (Con C)) (I : Inl) (inls : List Nat) (h : How) (fn : Func) (args : List SV) (H : Heap) (nm : Nat) (K : SV → Heap → Nat → Prop) : Prop :=
  match fn.body, Nat.ble args.length fn.ntmps with
  | some code, true => ev Γ fn.ntmps nm I inls h code ⟨argSlots 0 args, H, nm, 0, [], []⟩ (endK C fn.results.toList K)
  | _, _ => False
noncomputable def gH : List (Con cx) := [conWrong, conWhere, conOrd]
def inH : List Nat := [103, 123, 133, 104]
/-- The comparison, entered. -/
def CmpI (F : Nat → Body) (p q : Vec) (n : Nat) (I : Inl) : Prop := ∀ (a b : Int) (D : List Int) (K : SV → Heap → Nat → Prop), K (.v (.int .i64 (ordP (lookP F p q n a) (lookP F p q n b)))) (sortH F p q n D) 6 → I 104 [.v (.int .i64 a), .v (.int .i64 b), .p 3 0] (sortH F p q n D) 6 K
set_option maxHeartbeats 2000000 in
set_option maxRecDepth 8000 in
theorem hits1_ev {F : Nat → Body} {p q : Vec} {n : Nat} (ip : p.In) (iq : q.In) (hs : shortB p q = true) (hok : ∀ i, i < n → (F i).ok = true) (I : Inl) (a b : Int) (D : List Int) (K : SV → Heap → Nat → Prop)
    (hK : K (.v (.int .i64 (ordP (lookP F p q n a) (lookP F p q n b)))) (sortH F p q n D) 6) : evC gH I inH noHow Tryz.f104 [.v (.int .i64 a), .v (.int .i64 b), .p 3 0] (sortH F p q n D) 6 K := by
  refine And.intro ⟨rfl, rfl, rfl, trivial⟩ ?_
  refine And.intro ⟨rfl, rfl, rfl, trivial⟩ ?_
  refine And.intro ⟨lookP_in ip iq hs a hok, lookP_in ip iq hs b hok⟩ ?_
  exact hK
end Go.Proofs.YtjdohgcolhpegaaGreatDoor
namespace Go.Proofs.YtjdohgcolhpegaaGreatDoor
open Go.RowKit

set_option maxHeartbeats 20000000 in
set_option maxRecDepth 8000 in
theorem ins_ev {F : Nat → Body} {p q : Vec} {k : Nat} (I : Inl) (hI : CmpI F p q k I) (hlen : (idsK F p q k).length ≤ 20) (a : Nat) (b : Int) (ha : a ≤ 20) (ha0 : a = 0 ∨ (idsK F p q k).length ≤ a) (hb0 : b = (idsK F p q k).length) (K : SV → Heap → Nat → Prop)
    (hK : K (.tup []) (sortH F p q k (sortL (ltK k F p q) (idsK F p q k))) 6) : evC gH I inH ⟨[2004, 1004, 6], [], [1, 4], 0⟩ Tryz.f133 [.g 4 5 1 0 (idsK F p q k).length, .v (.int .i64 a), .v (.int .i64 b), sortCl] (sortH F p q k (rowD (ltK k F p q) (idsK F p q k) (a + 1))) 6 K := by
  subst hb0
  refine And.intro (by unfold I64; omega : I64 ((a : Int) + 1)) ?_
  refine Exists.intro (insCut F p q k a) ?_
  refine And.intro ?_ ?_
  · refine ⟨(a + 1 : Nat), [], [], trivial, ⟨Nat.le_refl _, by omega⟩, ?_⟩
    repeat' (first | (refine And.intro ?_ ?_) | (intro _) | exact rfl)
  refine fun (i : Nat) (hi : a + 1 ≤ i ∧ (i ≤ (idsK F p q k).length ∨ (idsK F p q k).length ≤ i)) => ?_
  obtain ⟨i1, i2⟩ := hi
  refine And.intro (fun hb => ?_) (fun hb => ?_)
  · have hb : (i : Int) < (idsK F p q k).length := of_decide_eq_true hb
    have hin : i < (idsK F p q k).length := by omega
    obtain rfl : a = 0 := by omega
    obtain ⟨x, hx⟩ : ∃ x, (idsK F p q k)[i] = x := ⟨_, rfl⟩
    refine Exists.intro (inCut F p q k 0 i x) ?_
    refine And.intro ?_ ?_
    · refine ⟨(([] : List Int), isR (ltK k F p q) ((idsK F p q k).take i)), [], [], trivial, ⟨rfl, fun z hz => by cases hz⟩, ?_⟩
      repeat' (first | (refine And.intro ?_ ?_) | (intro _) | exact rfl)
      all_goals first | (show ((isR (ltK k F p q) ((idsK F p q k).take i)).length : Int) = i; rw [isR_len, List.length_take]; omega) | exact congrArg (fun l => List.getD l _ 0) (by rw [rowD_step hin, hx] : (x :: isR (ltK k F p q) ((idsK F p q k).take i)).reverse ++ (idsK F p q k).drop (i + 1) = rowD (ltK k F p q) (idsK F p q k) i)
    refine fun (y : List Int × List Int) (hy : isR (ltK k F p q) ((idsK F p q k).take i) = y.1 ++ y.2 ∧ ∀ z ∈ y.1, ltK k F p q x z = true) => ?_
    obtain ⟨s, r⟩ := y
    obtain ⟨y1, y2⟩ : isR (ltK k F p q) ((idsK F p q k).take i) = s ++ r ∧ ∀ z ∈ s, ltK k F p q x z = true := hy
    have hrl : s.length + r.length = i := by
      have := congrArg List.length y1
      rw [isR_len, List.length_take, List.length_append] at this
      omega
    show ev _ _ _ _ _ _ _ ⟨[(0, ⟨0, 0, [], _⟩), (1, ⟨0, 0, [], _⟩), (2, ⟨0, 0, [], _⟩), (3, ⟨0, 0, [], _⟩), (8, ⟨0, 0, [], _⟩), (9, ⟨0, 0, [], _⟩)], [(0, _), (1, _), (2, _), (3, _), (4, _)], 6, 0, [], []⟩ _
    rcases r with _ | ⟨y, r'⟩
    · have no : ¬ ((0 : Nat) : Int) < (([] : List Int).length : Nat) := by simp
      refine And.intro (fun hg => absurd (of_decide_eq_true hg) no) ?_
      refine And.intro (fun hg => absurd (of_decide_eq_true hg) no) ?_
      refine And.intro (fun hg => absurd (of_decide_eq_true hg) no) ?_
      refine And.intro (fun hg => absurd (of_decide_eq_true hg) no) (imp_of ?_)
      refine And.intro (by unfold I64; omega : I64 ((i : Int) + 1)) ?_
      refine ⟨(i + 1 : Nat), [], [], (by show (idsK F p q k).length - (i + 1) < (idsK F p q k).length - i; omega), ⟨by omega, by omega⟩, ?_⟩
      have hnx := rowD_next (lt := ltK k F p q) (s := s) (r := []) hin y1 (by rw [hx]; exact y2) (.inl rfl)
      rw [hx] at hnx
      repeat' (first | (refine And.intro ?_ ?_) | (intro _) | exact rfl)
      all_goals exact congrArg (fun l => List.getD l _ 0) hnx
    have hrl' : s.length + (r'.length + 1) = i := hrl
    have yes : ((0 : Nat) : Int) < ((y :: r').length : Nat) := by simp only [List.length_cons]; omega
    have len1 : (y :: r').length = r'.length + 1 := rfl
    refine And.intro (fun hg => (⟨by omega, by omega⟩ : 0 ≤ ((y :: r').length : Int) ∧ ((y :: r').length : Int) < (idsK F p q k).length)) ?_
    refine And.intro (fun hg => (by unfold I64; omega : I64 (((y :: r').length : Int) - 1))) ?_
    refine And.intro (fun hg => (⟨by omega, by omega⟩ : 0 ≤ ((y :: r').length : Int) - 1 ∧ ((y :: r').length : Int) - 1 < (idsK F p q k).length)) ?_
    have e0 := revD s r' ((idsK F p q k).drop (i + 1)) x y
    have ea : ((s ++ x :: y :: r').reverse ++ (idsK F p q k).drop (i + 1)).getD (0 + ((y :: r').length : Int).toNat) 0 = x := by rw [e0]; exact getD_at1 _ _ _ _ (by simp)
    have eb : ((s ++ x :: y :: r').reverse ++ (idsK F p q k).drop (i + 1)).getD (0 + (((y :: r').length : Int) - 1).toNat) 0 = y := by rw [e0]; exact getD_at _ _ _ (by simp)
    refine And.intro (imp_of ?_) (fun hg => absurd yes (of_decide_eq_false hg))
    refine hI _ _ _ _ ?_
    have elt : ∀ u v : Int, decide (ordP (lookP F p q k u) (lookP F p q k v) < 0) = ltK k F p q u v := fun u v => by rw [lookP_eq, lookP_eq]; rfl
    refine And.intro (fun hc => ?_) (fun hc => ?_)
    · have hc : decide (ordP (lookP F p q k (((s ++ x :: y :: r').reverse ++ (idsK F p q k).drop (i + 1)).getD (0 + ((y :: r').length : Int).toNat) 0)) (lookP F p q k (((s ++ x :: y :: r').reverse ++ (idsK F p q k).drop (i + 1)).getD (0 + (((y :: r').length : Int) - 1).toNat) 0)) < 0) = true := hc
      rw [ea, eb, elt] at hc
      have g1 : I64 (((y :: r').length : Int) - 1) := by unfold I64; omega
      have g2 : 0 ≤ ((y :: r').length : Int) - 1 ∧ ((y :: r').length : Int) - 1 < (idsK F p q k).length := ⟨by omega, by omega⟩
      have g3 : 0 ≤ ((y :: r').length : Int) ∧ ((y :: r').length : Int) < (idsK F p q k).length := ⟨by omega, by omega⟩
      refine And.intro g1 ?_
      refine And.intro g1 ?_
      refine And.intro g2 ?_
      refine And.intro g3 ?_
      refine And.intro g3 ?_
      refine And.intro (fun _ _ => ⟨rfl, trivial⟩) ?_
      refine And.intro g2 ?_
      refine And.intro (fun _ _ => ⟨rfl, trivial⟩) ?_
      refine And.intro g1 ?_
      refine ⟨(s ++ [y], r'), [], [], (by show r'.length < (y :: r').length; omega), ⟨by rw [y1]; simp, fun z hz => ?_⟩, ?_⟩
      · rcases List.mem_append.1 hz with hz | hz
        · exact y2 z hz
        · obtain rfl : z = y := by simpa using hz
          exact hc
      · repeat' (first | (refine And.intro ?_ ?_) | (intro _) | exact rfl)
        · show ((r'.length : Nat) : Int) = ((y :: r').length : Nat) - 1
          omega
        · have key : ∀ m : Nat, (((s ++ [y]) ++ x :: r').reverse ++ (idsK F p q k).drop (i + 1)).getD m 0 = bif Nat.beq m (0 + (((y :: r').length : Int) - 1).toNat) then ((s ++ x :: y :: r').reverse ++ (idsK F p q k).drop (i + 1)).getD (0 + ((y :: r').length : Int).toNat) 0 else bif Nat.beq m (0 + ((y :: r').length : Int).toNat) then ((s ++ x :: y :: r').reverse ++ (idsK F p q k).drop (i + 1)).getD (0 + (((y :: r').length : Int) - 1).toNat) 0 else ((s ++ x :: y :: r').reverse ++ (idsK F p q k).drop (i + 1)).getD m 0 := fun m => by
            rw [ea, eb, e0, revD2, swapD, List.length_reverse, show 0 + (((y :: r').length : Int) - 1).toNat = r'.length by omega, show 0 + ((y :: r').length : Int).toNat = r'.length + 1 by omega]
          exact key _
    · have hc : decide (ordP (lookP F p q k (((s ++ x :: y :: r').reverse ++ (idsK F p q k).drop (i + 1)).getD (0 + ((y :: r').length : Int).toNat) 0)) (lookP F p q k (((s ++ x :: y :: r').reverse ++ (idsK F p q k).drop (i + 1)).getD (0 + (((y :: r').length : Int) - 1).toNat) 0)) < 0) = false := hc
      rw [ea, eb, elt] at hc
      refine And.intro (by unfold I64; omega : I64 ((i : Int) + 1)) ?_
      refine ⟨(i + 1 : Nat), [], [], (by show (idsK F p q k).length - (i + 1) < (idsK F p q k).length - i; omega), ⟨by omega, by omega⟩, ?_⟩
      have hnx := rowD_next (lt := ltK k F p q) (s := s) (r := y :: r') hin y1 (by rw [hx]; exact y2) (.inr ⟨y, r', rfl, by rw [hx]; exact hc⟩)
      rw [hx] at hnx
      repeat' (first | (refine And.intro ?_ ?_) | (intro _) | exact rfl)
      all_goals exact congrArg (fun l => List.getD l _ 0) hnx
  have hb : ¬ (i : Int) < (idsK F p q k).length := of_decide_eq_false hb
  have hD : rowD (ltK k F p q) (idsK F p q k) i = sortL (ltK k F p q) (idsK F p q k) := rowD_all (by omega)
  rw [← hD] at hK
  exact hK
end Go.Proofs.YtjdohgcolhpegaaGreatDoor
namespace Go.Proofs.YtjdohgcolhpegaaGreatDoor
open Go.RowKit

/-- The insertion sort, entered. -/
def InsI (F : Nat → Body) (p q : Vec) (k : Nat) (I : Inl) : Prop := ∀ (a : Nat) (b : Int) (D : List Int) (K : SV → Heap → Nat → Prop), a ≤ 20 → (a = 0 ∨ (idsK F p q k).length ≤ a) → b = (idsK F p q k).length → D = rowD (ltK k F p q) (idsK F p q k) (a + 1) → K (.tup []) (sortH F p q k (sortL (ltK k F p q) (idsK F p q k))) 6 →
  I 133 [.g 4 5 1 0 (idsK F p q k).length, .v (.int .i64 a), .v (.int .i64 b), sortCl] (sortH F p q k D) 6 K
def StbI (F : Nat → Body) (p q : Vec) (k : Nat) (I : Inl) : Prop := ∀ (K : SV → Heap → Nat → Prop), K (.tup []) (sortH F p q k (sortL (ltK k F p q) (idsK F p q k))) 6 →
  I 123 [.g 4 5 1 0 (idsK F p q k).length, .v (.int .i64 (idsK F p q k).length), sortCl] (sortH F p q k (idsK F p q k)) 6 K
/-- What the first loop keeps. -/
def stInv (F : Nat → Body) (p q : Vec) (n : Nat) : Cut := ⟨Nat × List Int, fun x => (x.1 = 0 ∧ x.2 = idsK F p q n) ∨ (x.1 = 20 ∧ x.2 = sortL (ltK n F p q) (idsK F p q n) ∧ (idsK F p q n).length = 20),
  fun x => ⟨[sl 0 (.g 4 5 1 0 (idsK F p q n).length), sl 1 (.v (.int .i64 (idsK F p q n).length)), sl 2 sortCl, sl 6 (.v (.int .i64 20)), sl 7 (.v (.int .i64 x.1)), sl 8 (.v (.int .i64 (x.1 + 20 : Nat)))], sortH F p q n x.2, 6, 0, [], []⟩, fun x => 20 - x.1⟩
set_option maxHeartbeats 20000000 in
set_option maxRecDepth 8000 in
theorem stable_ev {F : Nat → Body} {p q : Vec} {k : Nat} (I : Inl) (hI : InsI F p q k I) (hlen : (idsK F p q k).length ≤ 20) (K : SV → Heap → Nat → Prop)
    (hK : K (.tup []) (sortH F p q k (sortL (ltK k F p q) (idsK F p q k))) 6) : evC gH I inH ⟨[], [], [2], 2⟩ Tryz.f123 [.g 4 5 1 0 (idsK F p q k).length, .v (.int .i64 (idsK F p q k).length), sortCl] (sortH F p q k (idsK F p q k)) 6 K := by
  refine Exists.intro (stInv F p q k) ?_
  refine And.intro ?_ ?_
  · refine ⟨((0 : Nat), idsK F p q k), [], [], trivial, .inl ⟨rfl, rfl⟩, ?_⟩
    repeat' (first | (refine And.intro ?_ ?_) | (intro _) | exact rfl)
  refine fun (x : Nat × List Int) (hx : (x.1 = 0 ∧ x.2 = idsK F p q k) ∨ (x.1 = 20 ∧ x.2 = sortL (ltK k F p q) (idsK F p q k) ∧ (idsK F p q k).length = 20)) => ?_
  obtain ⟨a, D⟩ := x
  have hx : (a = 0 ∧ D = idsK F p q k) ∨ (a = 20 ∧ D = sortL (ltK k F p q) (idsK F p q k) ∧ (idsK F p q k).length = 20) := hx
  refine And.intro (fun hb => ?_) (fun hb => ?_)
  · have hb : ((a + 20 : Nat) : Int) ≤ (idsK F p q k).length := of_decide_eq_true hb
    have h0 : a = 0 := by omega
    have h20 : (idsK F p q k).length = 20 := by omega
    subst h0
    obtain rfl : D = idsK F p q k := by
      rcases hx with hx | hx
      · exact hx.2
      · omega
    refine hI 0 _ _ _ (by omega) (.inl rfl) (by rw [h20]) (rowD_one _ _).symm ?_
    refine And.intro (by unfold I64; omega : I64 (((0 + 20 : Nat) : Int) + 20)) ?_
    refine ⟨((20 : Nat), sortL (ltK k F p q) (idsK F p q k)), [], [], (by show 20 - 20 < 20 - 0; omega), .inr ⟨rfl, rfl, h20⟩, ?_⟩
    repeat' (first | (refine And.intro ?_ ?_) | (intro _) | exact rfl)
  · have hb : ¬ ((a + 20 : Nat) : Int) ≤ (idsK F p q k).length := of_decide_eq_false hb
    have ho : ∀ K' : SV → Heap → Nat → Prop, K' (.tup []) (sortH F p q k (sortL (ltK k F p q) (idsK F p q k))) 6 → I 133 [.g 4 5 1 0 (idsK F p q k).length, .v (.int .i64 a), .v (.int .i64 (idsK F p q k).length), sortCl] (sortH F p q k D) 6 K' := fun K' hK' => by
      refine hI a _ D K' (by omega) (by omega) rfl ?_ hK'
      rcases hx with ⟨rfl, rfl⟩ | ⟨rfl, rfl, hl⟩
      · exact (rowD_one _ _).symm
      · exact (rowD_all (by omega)).symm
    refine ho _ ?_
    refine And.intro (fun hc => ?_) (fun hc => ?_)
    · have hc : (20 : Int) < (idsK F p q k).length := of_decide_eq_true hc
      omega
    · exact hK
def SortI (F : Nat → Body) (p q : Vec) (k : Nat) (I : Inl) : Prop := ∀ (K : SV → Heap → Nat → Prop), K (.tup []) (sortH F p q k (sortL (ltK k F p q) (idsK F p q k))) 6 → I 103 [.g 4 5 1 0 (idsK F p q k).length, sortCl] (sortH F p q k (idsK F p q k)) 6 K
set_option maxHeartbeats 20000000 in
set_option maxRecDepth 8000 in
theorem sort_ev {F : Nat → Body} {p q : Vec} {k : Nat} (I : Inl) (hI : StbI F p q k I) (K : SV → Heap → Nat → Prop)
    (hK : K (.tup []) (sortH F p q k (sortL (ltK k F p q) (idsK F p q k))) 6) : evC gH I inH ⟨[], [], [], 0⟩ Tryz.f103 [.g 4 5 1 0 (idsK F p q k).length, sortCl] (sortH F p q k (idsK F p q k)) 6 K := by
  refine hI _ ?_
  exact hK
noncomputable def fsH : List (FnI cx) := [inSort, inStable, inIns, inHits1]
/-- The whole sort, entered. -/
theorem sort_inl {F : Nat → Body} {p q : Vec} {k : Nat} (ip : p.In) (iq : q.In) (hs : shortB p q = true) (hok : ∀ i, i < k → (F i).ok = true) (hlen : (idsK F p q k).length ≤ 20) : SortI F p q k (inlD gH fsH 4) := by
  have h1 : CmpI F p q k (inlD gH fsH 1) := fun a b D K hK => hits1_ev ip iq hs hok (inlD gH fsH 0) a b D K hK
  have h2 : InsI F p q k (inlD gH fsH 2) := fun a b D K h1' h2' h3' h4' hK => by
    subst h4'
    exact ins_ev (inlD gH fsH 1) h1 hlen a b h1' h2' h3' K hK
  have h3 : StbI F p q k (inlD gH fsH 3) := fun K hK => stable_ev (inlD gH fsH 2) h2 hlen K hK
  exact fun K hK => sort_ev (inlD gH fsH 3) h3 K hK
end Go.Proofs.YtjdohgcolhpegaaGreatDoor
namespace Go.Proofs.YtjdohgcolhpegaaGreatDoor
open Go.RowKit

set_option maxHeartbeats 20000000 in
set_option maxRecDepth 8000 in
theorem hits_ev (I : Inl) (n : Nat) (F : Nat → Body) (p q : Vec) (hI : p.In → q.In → shortB p q = true → (∀ i, i < n → (F i).ok = true) → (idsK F p q n).length ≤ 20 → SortI F p q n I) (hn : hitsErr n F p q = 0 → (idsK F p q n).length ≤ 20) (hn1 : (n : Int) ≤ 1000000) :
    evC gH I inH ⟨[], [], [2, 14], 0⟩ Tryz.f73 (((rds3 rdBodies rdVec rdVec)).enc ((n, F), p, q)) [] 0 fun v H _ => resOutF (.tup [.rs 1 (hitsE n F p q).length (cellsI (hitsE n F p q)), .v (.int .i64 (hitsErr n F p q))]) H v := by
  refine Exists.intro (hitCut1 n F p q) ?_
  refine And.intro ?_ ?_
  · refine ⟨(1 : Nat), [], [], trivial, ⟨Nat.le_refl 1, (by omega : 1 ≤ max n 1), rfl⟩, ?_⟩
    repeat' (first | (refine And.intro ?_ ?_) | (intro _) | exact rfl)
  refine fun (k : Nat) (hk : 1 ≤ k ∧ k ≤ max n 1 ∧ unsN F 1 (n - 1) = unsN F k (n - k)) => ?_
  obtain ⟨k0, k1, k2⟩ := hk
  refine And.intro (fun hb => ?_) (fun hb => ?_)
  · have hb : (k : Int) < n := of_decide_eq_true hb
    have e := unsN_step (F := F) (k := k) (n := n) (by omega)
    refine And.intro (⟨by omega, by omega⟩ : 0 ≤ (k : Int) ∧ (k : Int) < n) ?_
    refine And.intro (by unfold I64; omega : I64 ((k : Int) - 1)) ?_
    refine And.intro (⟨by omega, by omega⟩ : 0 ≤ (k : Int) - 1 ∧ (k : Int) - 1 < n) ?_
    have ek : ((k : Int) - 1).toNat = k - 1 := by omega
    refine And.intro (fun hc => ?_) (fun hc => ?_)
    · have hc : decide ((F k).iD ≤ (F ((k : Int) - 1).toNat).iD) = true := hc
      rw [ek] at hc
      rw [hc] at e
      have he : hitsErr n F p q = 2 := by unfold hitsErr; rw [k2, e]
      have hl : hitsE n F p q = [] := by unfold hitsE; rw [he]; rfl
      simp only [he, hl]
      repeat' (first | (refine And.intro ?_ ?_) | (intro _) | exact rfl)
    · have hc : decide ((F k).iD ≤ (F ((k : Int) - 1).toNat).iD) = false := hc
      rw [ek] at hc
      rw [hc] at e
      refine And.intro (by unfold I64; omega : I64 ((k : Int) + 1)) ?_
      refine ⟨k + 1, [], [], (by show n - (k + 1) < n - k; omega), ⟨(by omega : 1 ≤ k + 1), (by omega : k + 1 ≤ max n 1), k2.trans e⟩, ?_⟩
      repeat' (first | (refine And.intro ?_ ?_) | (intro _) | exact rfl)
  have hb : ¬ (k : Int) < n := of_decide_eq_false hb
  have hu : unsN F 1 (n - 1) = false := by rw [k2, show n - k = 0 by omega]; rfl
  refine And.intro (fun hc => ?_) (fun hc => ?_)
  · have hc : decide (64 < (n : Int)) = true := hc
    have he : hitsErr n F p q = 2 := by unfold hitsErr; rw [hu, hc]
    have hl : hitsE n F p q = [] := by unfold hitsE; rw [he]; rfl
    simp only [he, hl]
    repeat' (first | (refine And.intro ?_ ?_) | (intro _) | exact rfl)
  have hc : decide (64 < (n : Int)) = false := hc
  have h64 : (n : Int) ≤ 64 := by have := of_decide_eq_false hc; omega
  refine And.intro ⟨fun _ _ => trivial, (by omega : (n : Int) ≤ 1000000)⟩ ?_
  refine And.intro (fun hd => ?_) (fun hd => ?_)
  · have hd : decide (¬ wrongE p q n F = 0) = true := hd
    have he : hitsErr n F p q = wrongE p q n F := by unfold hitsErr; rw [hu, hc]
    have hl : hitsE n F p q = [] := by unfold hitsE; rw [he, hd]
    simp only [he, hl]
    repeat' (first | (refine And.intro ?_ ?_) | (intro _) | exact rfl)
  have hd : decide (¬ wrongE p q n F = 0) = false := hd
  have hw : wrongE p q n F = 0 := by simpa using hd
  obtain ⟨ip, iq, hok, hs⟩ := wrongE_ok hw
  have he : hitsErr n F p q = 0 := by unfold hitsErr; rw [hu, hc, hw]
  have hl : hitsE n F p q = hitsL n F p q := by unfold hitsE; rw [he]; rfl
  simp only [he, hl]
  refine Exists.intro (hitCut2 n F p q) ?_
  refine And.intro ?_ ?_
  · refine ⟨(0 : Nat), [], [.slot2 11 1 3], trivial, Nat.zero_le _, ?_⟩
    repeat' (first | (refine And.intro ?_ ?_) | (intro _) | exact rfl)
    all_goals exact absurd ‹_ < 0› (Nat.not_lt_zero _)
  refine fun (k : Nat) (hk : k ≤ n) => ?_
  refine And.intro (fun hb => ?_) (fun hb => ?_)
  · have hb : (k : Int) < n := of_decide_eq_true hb
    refine And.intro (⟨by omega, by omega⟩ : 0 ≤ (k : Int) ∧ (k : Int) < n) ?_
    refine And.intro ⟨hok k (by omega), ip, iq, hs⟩ ?_
    refine And.intro (fun hm => ?_) (fun hm => ?_)
    · have hm : metB F p q k = true := hm
      have hlen := idsK_len (F := F) (p := p) (q := q) k
      have hfit : fitO ((idsK F p q k).length + 1) 8 := ⟨Nat.le_trans (by omega : (idsK F p q k).length + 1 ≤ 1000) (by decide), by omega⟩
      refine And.intro (fun j => ⟨rfl, rfl, rfl, trivial⟩) ?_
      refine And.intro ⟨hfit, fun _ _ _ => ⟨rfl, trivial⟩⟩ ?_
      refine And.intro (by unfold I64; omega : I64 ((k : Int) + 1)) ?_
      refine ⟨k + 1, [(5, 9)], [], (by show n - (k + 1) < n - k; omega), (by omega : k + 1 ≤ n), ?_⟩
      repeat' (first | (refine And.intro ?_ ?_) | (intro _) | exact rfl)
      all_goals first | exact idsK_yes_len hm | exact hasK_yes hm _ | exact plK_n hm _ | exact plK_s hm _ | exact plK_m hm _ | exact idsK_yes_get hm ‹_›
    · have hm : metB F p q k = false := hm
      refine And.intro (by unfold I64; omega : I64 ((k : Int) + 1)) ?_
      refine ⟨k + 1, [], [], (by show n - (k + 1) < n - k; omega), (by omega : k + 1 ≤ n), ?_⟩
      repeat' (first | (refine And.intro ?_ ?_) | (intro _) | exact rfl)
      all_goals first | exact congrArg List.length (idsK_nay hm) | exact hasK_nay hm _ | exact congrArg Plc.n (plK_nay hm _) | exact congrArg Plc.s (plK_nay hm _) | exact congrArg Plc.m (plK_nay hm _) | exact congrArg (fun l => List.getD l _ 0) (idsK_nay hm)
  have hb : ¬ (k : Int) < n := of_decide_eq_false hb
  obtain rfl : k = n := by omega
  have hlen := idsK_len (F := F) (p := p) (q := q) k
  refine hI ip iq hs hok (hn he) _ ?_
  refine And.intro (fun _ _ => rfl) ?_
  refine And.intro (sortL_len _) ?_
  refine And.intro (fun i _ => (congrArg (fun m => (hitsL k F p q).getD m 0) (Nat.zero_add i).symm)) rfl
/-- Hits: of IDs in order; at most 20 of the bodies are met. -/
noncomputable def conHits : Con cx := walkConF 73 Tryz.call73 (rds3 rdBodies rdVec rdVec) (fun a => [(a.1.1 : Int) ≤ 1000000, hitsErr a.1.1 a.1.2 a.2.1 a.2.2 = 0 → (idsK a.1.2 a.2.1 a.2.2 a.1.1).length ≤ 20]) (fun a => .tup [.rs 1 (hitsE a.1.1 a.1.2 a.2.1 a.2.2).length (cellsI (hitsE a.1.1 a.1.2 a.2.1 a.2.2)), .v (.int .i64 (hitsErr a.1.1 a.1.2 a.2.1 a.2.2))]) (fun _ => ⟨[], [], [2, 14], 0⟩) [] (fun _ => rfl) follows Tryz.func73 (by kernel_rfl)
  fun ⟨⟨n, F⟩, p, q⟩ ⟨h1, h2⟩ => hits_ev (inlD gH fsH 4) n F p q (fun ip iq hs hok hl => sort_inl ip iq hs hok hl) h2 h1
end Go.Proofs.YtjdohgcolhpegaaGreatDoor
