/- CastOrder: the walk. -/
import Derived.Test.YtcbpajkgmpibgaaC27
namespace Go.Proofs.Ytcbpajkgmpibgaa
open Go.RowKit

def bF (F : Nat → Form) (i : Nat) : Body := madeB i (F i)
theorem bF_inc (F : Nat → Form) (m : Nat) : ∀ i j, i < j → j < m → (bF F i).iD < (bF F j).iD := fun i j h _ => by simp only [bF, madeB]; omega
def lastV (m : Nat) (F : Nat → Body) (p q : Vec) (L : List Int) : Nat → Int
  | 0 => -1
  | k + 1 => partW (whereP (nthB m F L k) p q).1
def oH (p q v : Vec) : Heap := [(0, .lay p.cells 28), (1, .lay q.cells 28), (2, .lay v.cells 28)]
def bS (m : Nat) (F : Nat → Form) : SV := .rs 9 m fun i => (bF F i).cells
def lS' (l : List Int) : SV := .rs 1 l.length (cellsI l)
def oS (m : Nat) (F : Nat → Form) (L : List Int) : List (Nat × Slot) := [sl 11 (bS m F), sl 12 (.p 0 0), sl 13 (.p 1 0), sl 14 (.p 2 0), sl 15 (lS' L)]
def ord1 (m : Nat) (F : Nat → Form) (p q v : Vec) (L : List Int) : Cut := ⟨Nat, fun k => k ≤ m, fun k => ⟨sl 17 (.v (.int .i64 (idsK (bF F) p q k).length)) :: sl 65 (bS m F) :: sl 66 (.v (.int .i64 m)) :: sl 67 (.v (.int .i64 k)) :: oS m F L, oH p q v, 3, 0, [], []⟩, fun k => m - k⟩
def ord2 (m : Nat) (F : Nat → Form) (p q v : Vec) (L : List Int) (t : Int) : Cut := ⟨Nat, fun k => k ≤ L.length, fun k => ⟨sl 17 (.v (.int .i64 t)) :: sl 20 (.v (.int .i64 (lastV m (bF F) p q L k))) :: sl 21 (.v (.int .i64 0)) :: sl 78 (lS' L) :: sl 79 (.v (.int .i64 L.length)) :: sl 80 (.v (.int .i64 k)) :: oS m F L, oH p q v, 3, 0, [], []⟩, fun k => L.length - k⟩
/-- How many are met up to the step ahead of the n-th. -/
def Seen (m : Nat) (F : Nat → Body) (p v : Vec) (L : List Int) (n s : Nat) : Prop := s ≤ L.length ∧ (n = 0 → s = 0) ∧ ∀ n', n = n' + 1 → (∀ j, j < s → meetsB (nthB m F L j) p (goV p v n') = true) ∧ ∀ j, s ≤ j → j < L.length → meetsB (nthB m F L j) p (goV p v n') = false
def ord3 (m : Nat) (F : Nat → Form) (p q v : Vec) (L : List Int) (t : Int) : Cut := ⟨Nat × Nat, fun x => x.1 ≤ 41 ∧ Seen m (bF F) p v L x.1 x.2, fun x => ⟨sl 17 (.v (.int .i64 t)) :: sl 21 (.v (.int .i64 x.2)) :: sl 34 (.v (.int .i64 x.1)) :: oS m F L, oH p q v, 3, 0, [], []⟩, fun x => 41 - x.1⟩
def oH2 (p q v : Vec) (n : Nat) : Heap := (3, .lay (goV p v n).cells 28) :: oH p q v
/-- The ones ahead of the k-th: the first c are met. -/
def Cnt (m : Nat) (F : Nat → Body) (p v : Vec) (L : List Int) (n k c : Nat) : Prop := c ≤ k ∧ k ≤ L.length ∧ (∀ j, j < c → meetsB (nthB m F L j) p (goV p v n) = true) ∧ ∀ j, c ≤ j → j < k → meetsB (nthB m F L j) p (goV p v n) = false
def ord4 (m : Nat) (F : Nat → Form) (p q v : Vec) (L : List Int) (t : Int) (n s : Nat) : Cut := ⟨Nat × Nat, fun x => Cnt m (bF F) p v L n x.1 x.2, fun x => ⟨sl 17 (.v (.int .i64 t)) :: sl 21 (.v (.int .i64 s)) :: sl 34 (.v (.int .i64 n)) :: sl 35 (.p 3 0) :: sl 36 (.v (.int .i64 x.2)) :: sl 187 (lS' L) :: sl 188 (.v (.int .i64 L.length)) :: sl 189 (.v (.int .i64 x.1)) :: oS m F L, oH2 p q v n, 4, 0, [], []⟩, fun x => L.length - x.1⟩
def ord5 (m : Nat) (F : Nat → Form) (p q v : Vec) (L : List Int) (t : Int) (n s c : Nat) : Cut := ⟨Nat, fun k => k ≤ m, fun k => ⟨sl 17 (.v (.int .i64 t)) :: sl 21 (.v (.int .i64 s)) :: sl 34 (.v (.int .i64 n)) :: sl 35 (.p 3 0) :: sl 36 (.v (.int .i64 c)) :: sl 210 (bS m F) :: sl 211 (.v (.int .i64 m)) :: sl 212 (.v (.int .i64 k)) :: oS m F L, oH2 p q v n, 4, 0, [], []⟩, fun k => m - k⟩
set_option maxHeartbeats 20000000 in
set_option maxRecDepth 8000 in
theorem order_walk (n : Nat) (F : Nat → Form) (x y dx dy : Int) (hn : (n : Int) ≤ 9223372036854775807) (hF : ∀ i, i < madeN n → (F i).Ok) (hx : I8 x) (hy : I8 y) (hdx : I8 dx) (hdy : I8 dy) : evFn (C := cx) [conAwake, conMade, conEnds, conHits, conMeets, conAt, conFind, conPart, conBefore] [] 0 ⟨[], [], [10, 17, 32, 37, 46], 0⟩ Try.f3 ((rds5 rdForms (rdI .i8) (rdI .i8) (rdI .i8) (rdI .i8)).enc ((n, F), x, y, dx, dy)) fun v H _ => resOut (.bl true) H v := by
  have hN := near_ends (dx := dx) (dy := dy) hx hy
  obtain ⟨m, hm⟩ : ∃ m, m = madeN n := ⟨_, rfl⟩
  have hm20 : m ≤ 20 := by rw [hm]; exact madeN_le n
  have hsm : ∀ i, i < m → (bF F i).Sm := fun i hi => madeB_Sm (hF i (by omega)) (by omega)
  have hok : ∀ i, i < m → (bF F i).ok = true := fun i hi => (hsm i hi).ok
  have hinc := bF_inc F m
  have ip := hN.inP
  have iq := hN.inV (n := 40) (by decide)
  have hs := hN.short (n := 40) (by decide)
  have hil := idsK_len (F := bF F) (p := (begV x y)) (q := (goV (begV x y) (stepV dx dy) 40)) m
  have he : hitsErr m (bF F) (begV x y) (goV (begV x y) (stepV dx dy) 40) = 0 := by
    unfold hitsErr
    rw [unsN_of (F := bF F) fun i h1 h2 => hinc (i - 1) i (by omega) (by omega), decide_eq_false (by omega)]
    exact wrongE_of ip iq hok hs
  have hl : hitsE m (bF F) (begV x y) (goV (begV x y) (stepV dx dy) 40) = hitsL m (bF F) (begV x y) (goV (begV x y) (stepV dx dy) 40) := by unfold hitsE; rw [he]; rfl
  have hll : (hitsE m (bF F) (begV x y) (goV (begV x y) (stepV dx dy) 40)).length = (idsK (bF F) (begV x y) (goV (begV x y) (stepV dx dy) 40) m).length := by rw [hl]; exact sortL_len _
  have hO : Ord m (bF F) (begV x y) (stepV dx dy) (hitsE m (bF F) (begV x y) (goV (begV x y) (stepV dx dy) 40)) := ⟨hN, hok, fun k hk => by rw [hl] at hk ⊢; exact nth_ok hinc hk, fun k hk => by rw [hl] at hk ⊢; exact nth_next hinc hk⟩
  have m6 : (m : Int) ≤ 1000000 := by omega
  refine And.intro ⟨fun _ _ => trivial, hn, hF⟩ ?_
  refine And.intro ⟨hx, hy, hdx, hdy, (⟨by decide, by decide⟩ : (0 : Int) ≤ 40 ∧ (40 : Int) ≤ 100)⟩ ?_
  have pre2 : (m : Int) ≤ 1000000 ∧ (hitsErr m (bF F) (begV x y) (goV (begV x y) (stepV dx dy) 40) = 0 → (idsK (bF F) (begV x y) (goV (begV x y) (stepV dx dy) 40) m).length ≤ 20) := ⟨m6, fun _ => by omega⟩
  rw [hm] at pre2
  refine And.intro ⟨fun _ _ => trivial, pre2.1, pre2.2⟩ ?_
  refine And.intro (fun hc => ?_) (fun hc => ?_)
  · have hc : decide (¬ hitsErr (madeN n) (bF F) (begV x y) (goV (begV x y) (stepV dx dy) 40) = 0) = true := hc
    rw [← hm, he] at hc
    exact (Bool.false_ne_true hc).elim
  clear hc
  refine Exists.intro (ord1 m F (begV x y) (goV (begV x y) (stepV dx dy) 40) (stepV dx dy) (hitsE m (bF F) (begV x y) (goV (begV x y) (stepV dx dy) 40))) ?_
  refine And.intro ?_ ?_
  · refine ⟨(0 : Nat), [], [], trivial, Nat.zero_le _, ?_⟩
    subst hm
    repeat' (first | (refine And.intro ?_ ?_) | (intro _) | exact rfl)
  clear pre2 hm hn hF
  refine fun (k : Nat) (hk : k ≤ m) => ?_
  refine And.intro (fun hb => ?_) (fun hb => ?_)
  · have hb : (k : Int) < m := of_decide_eq_true hb
    refine And.intro ⟨by omega, by omega⟩ ?_
    have hcnt := idsK_count (F := bF F) (p := (begV x y)) (q := (goV (begV x y) (stepV dx dy) 40)) (k := k)
    have hmeq : meetsB (bF F k) (begV x y) (goV (begV x y) (stepV dx dy) 40) = metB (bF F) (begV x y) (goV (begV x y) (stepV dx dy) 40) k := by rw [hN.meets (hok k (by omega)) (by decide)]; rfl
    have hkl := idsK_len (F := bF F) (p := (begV x y)) (q := (goV (begV x y) (stepV dx dy) 40)) k
    refine And.intro (fun hc => ?_) (fun hc => ?_)
    · have hc : meetsB (bF F k) (begV x y) (goV (begV x y) (stepV dx dy) 40) = true := hc
      rw [hmeq] at hc
      rw [hc] at hcnt
      refine And.intro (by unfold I64; omega : I64 ((idsK (bF F) (begV x y) (goV (begV x y) (stepV dx dy) 40) k).length + 1)) ?_
      refine And.intro (by unfold I64; omega : I64 ((k : Int) + 1)) ?_
      refine ⟨k + 1, [], [], (by show m - (k + 1) < m - k; omega), (by omega : k + 1 ≤ m), ?_⟩
      repeat' (first | (refine And.intro ?_ ?_) | (intro _) | exact rfl)
      all_goals exact congrArg (fun z : Nat => (z : Int)) hcnt
    · have hc : meetsB (bF F k) (begV x y) (goV (begV x y) (stepV dx dy) 40) = false := hc
      rw [hmeq] at hc
      rw [hc] at hcnt
      refine And.intro (by unfold I64; omega : I64 ((k : Int) + 1)) ?_
      refine ⟨k + 1, [], [], (by show m - (k + 1) < m - k; omega), (by omega : k + 1 ≤ m), ?_⟩
      repeat' (first | (refine And.intro ?_ ?_) | (intro _) | exact rfl)
      all_goals exact congrArg (fun z : Nat => (z : Int)) hcnt
  have hb : ¬ (k : Int) < m := of_decide_eq_false hb
  obtain rfl : k = m := by omega
  clear hb
  obtain ⟨t, ht⟩ : ∃ t, t = ((idsK (bF F) (begV x y) (goV (begV x y) (stepV dx dy) 40) k).length : Int) := ⟨_, rfl⟩
  refine Exists.intro (ord2 k F (begV x y) (goV (begV x y) (stepV dx dy) 40) (stepV dx dy) (hitsE k (bF F) (begV x y) (goV (begV x y) (stepV dx dy) 40)) t) ?_
  refine And.intro ?_ ?_
  · refine ⟨(0 : Nat), [], [], trivial, Nat.zero_le _, ?_⟩
    repeat' (first | (refine And.intro ?_ ?_) | (intro _) | exact rfl)
    all_goals exact ht
  refine fun (i : Nat) (hi : i ≤ (hitsE k (bF F) (begV x y) (goV (begV x y) (stepV dx dy) 40)).length) => ?_
  refine And.intro (fun hb => ?_) (fun hb => ?_)
  · have hb : (i : Int) < (hitsE k (bF F) (begV x y) (goV (begV x y) (stepV dx dy) 40)).length := of_decide_eq_true hb
    have hi2 : i < (hitsE k (bF F) (begV x y) (goV (begV x y) (stepV dx dy) 40)).length := by omega
    have a := hO.nth i hi2
    have ab := hO.bok hi2
    have ae : partE (nthB k (bF F) (hitsE k (bF F) (begV x y) (goV (begV x y) (stepV dx dy) 40)) i) (begV x y) (goV (begV x y) (stepV dx dy) 40) = ((partW (whereP (nthB k (bF F) (hitsE k (bF F) (begV x y) (goV (begV x y) (stepV dx dy) 40)) i) (begV x y) (goV (begV x y) (stepV dx dy) 40)).1 : Int), 0) := by
      rw [part_val ab ip iq hs, a.met]; rfl
    have pl := partW_le (w := (whereP (nthB k (bF F) (hitsE k (bF F) (begV x y) (goV (begV x y) (stepV dx dy) 40)) i) (begV x y) (goV (begV x y) (stepV dx dy) 40)).1)
    refine And.intro ⟨by omega, by omega⟩ ?_
    refine And.intro ⟨fun _ _ => trivial, m6⟩ ?_
    have hlast : lastV k (bF F) (begV x y) (goV (begV x y) (stepV dx dy) 40) (hitsE k (bF F) (begV x y) (goV (begV x y) (stepV dx dy) 40)) i ≤ partW (whereP (nthB k (bF F) (hitsE k (bF F) (begV x y) (goV (begV x y) (stepV dx dy) 40)) i) (begV x y) (goV (begV x y) (stepV dx dy) 40)).1 := by
      cases i with
      | zero => simp only [lastV]; omega
      | succ j =>
        simp only [lastV]
        have := partW_mono (hO.pos (k := j) (by omega)).1 (hO.pos hi2).1 (hO.pos (k := j) (by omega)).2 (hO.pos hi2).2 (hO.mm (by omega) hi2) (hO.next j hi2).1
        omega
    refine And.intro (fun hc => ?_) (fun hc => ?_)
    · have hc : (!(findN (bF F) ((hitsE k (bF F) (begV x y) (goV (begV x y) (stepV dx dy) 40)).getD i 0) 0 k).2 || decide (¬ (partE (nthB k (bF F) (hitsE k (bF F) (begV x y) (goV (begV x y) (stepV dx dy) 40)) i) (begV x y) (goV (begV x y) (stepV dx dy) 40)).2 = 0) || decide ((partE (nthB k (bF F) (hitsE k (bF F) (begV x y) (goV (begV x y) (stepV dx dy) 40)) i) (begV x y) (goV (begV x y) (stepV dx dy) 40)).1 < lastV k (bF F) (begV x y) (goV (begV x y) (stepV dx dy) 40) (hitsE k (bF F) (begV x y) (goV (begV x y) (stepV dx dy) 40)) i) || decide (65536 < (partE (nthB k (bF F) (hitsE k (bF F) (begV x y) (goV (begV x y) (stepV dx dy) 40)) i) (begV x y) (goV (begV x y) (stepV dx dy) 40)).1)) = true := hc
      exfalso
      rw [a.found, ae] at hc
      simp only [Bool.not_true, Bool.false_or, Bool.or_eq_true, decide_eq_true_eq] at hc
      rcases hc with (hc | hc) | hc
      · first | exact hc rfl | exact hc trivial
      · omega
      · omega
    clear hc
    have hp1 : (partE (nthB k (bF F) (hitsE k (bF F) (begV x y) (goV (begV x y) (stepV dx dy) 40)) i) (begV x y) (goV (begV x y) (stepV dx dy) 40)).1 = (partW (whereP (nthB k (bF F) (hitsE k (bF F) (begV x y) (goV (begV x y) (stepV dx dy) 40)) i) (begV x y) (goV (begV x y) (stepV dx dy) 40)).1 : Int) := by rw [ae]
    have lim : (hitsE k (bF F) (begV x y) (goV (begV x y) (stepV dx dy) 40)).length ≤ 20 := by omega
    refine And.intro (fun hc => ?_) (fun hc => ?_)
    · clear hc
      refine And.intro (by unfold I64; omega : I64 ((i : Int) + 1)) ?_
      refine ⟨i + 1, [], [], (by show (hitsE k (bF F) (begV x y) (goV (begV x y) (stepV dx dy) 40)).length - (i + 1) < (hitsE k (bF F) (begV x y) (goV (begV x y) (stepV dx dy) 40)).length - i; omega), (by omega : i + 1 ≤ (hitsE k (bF F) (begV x y) (goV (begV x y) (stepV dx dy) 40)).length), ?_⟩
      repeat' (first | (refine And.intro ?_ ?_) | (intro _) | exact rfl)
      all_goals exact hp1.symm
    · have hc : decide ((i : Int) = 0) = false := hc
      have hc := of_decide_eq_false hc
      have ei : ((i : Int) - 1).toNat = i - 1 := by omega
      have nx := hO.next (i - 1) (by omega)
      rw [show i - 1 + 1 = i by omega] at nx
      have a' := hO.nth (i - 1) (by omega)
      have ab' := hO.bok (k := i - 1) (by omega)
      have b1 := before_val ab' ab ip iq hs
      have b2 := before_val ab ab' ip iq hs
      rw [a.met, a'.met] at b1 b2
      have b1 : beforeE (nthB k (bF F) (hitsE k (bF F) (begV x y) (goV (begV x y) (stepV dx dy) 40)) (i - 1)) (nthB k (bF F) (hitsE k (bF F) (begV x y) (goV (begV x y) (stepV dx dy) 40)) i) (begV x y) (goV (begV x y) (stepV dx dy) 40) = (ordP (whereP (nthB k (bF F) (hitsE k (bF F) (begV x y) (goV (begV x y) (stepV dx dy) 40)) (i - 1)) (begV x y) (goV (begV x y) (stepV dx dy) 40)).1 (whereP (nthB k (bF F) (hitsE k (bF F) (begV x y) (goV (begV x y) (stepV dx dy) 40)) i) (begV x y) (goV (begV x y) (stepV dx dy) 40)).1, 0) := b1
      have b2 : beforeE (nthB k (bF F) (hitsE k (bF F) (begV x y) (goV (begV x y) (stepV dx dy) 40)) i) (nthB k (bF F) (hitsE k (bF F) (begV x y) (goV (begV x y) (stepV dx dy) 40)) (i - 1)) (begV x y) (goV (begV x y) (stepV dx dy) 40) = (ordP (whereP (nthB k (bF F) (hitsE k (bF F) (begV x y) (goV (begV x y) (stepV dx dy) 40)) i) (begV x y) (goV (begV x y) (stepV dx dy) 40)).1 (whereP (nthB k (bF F) (hitsE k (bF F) (begV x y) (goV (begV x y) (stepV dx dy) 40)) (i - 1)) (begV x y) (goV (begV x y) (stepV dx dy) 40)).1, 0) := b2
      have neg := ordP_neg (whereP (nthB k (bF F) (hitsE k (bF F) (begV x y) (goV (begV x y) (stepV dx dy) 40)) (i - 1)) (begV x y) (goV (begV x y) (stepV dx dy) 40)).1 (whereP (nthB k (bF F) (hitsE k (bF F) (begV x y) (goV (begV x y) (stepV dx dy) 40)) i) (begV x y) (goV (begV x y) (stepV dx dy) 40)).1
      have rng := ordP_rng (whereP (nthB k (bF F) (hitsE k (bF F) (begV x y) (goV (begV x y) (stepV dx dy) 40)) i) (begV x y) (goV (begV x y) (stepV dx dy) 40)).1 (whereP (nthB k (bF F) (hitsE k (bF F) (begV x y) (goV (begV x y) (stepV dx dy) 40)) (i - 1)) (begV x y) (goV (begV x y) (stepV dx dy) 40)).1
      have enth : nthB k (bF F) (hitsE k (bF F) (begV x y) (goV (begV x y) (stepV dx dy) 40)) ((i : Int) - 1).toNat = nthB k (bF F) (hitsE k (bF F) (begV x y) (goV (begV x y) (stepV dx dy) 40)) (i - 1) := by rw [ei]
      refine And.intro (by unfold I64; omega : I64 ((i : Int) - 1)) ?_
      refine And.intro (⟨by omega, by omega⟩ : 0 ≤ (i : Int) - 1 ∧ (i : Int) - 1 < (hitsE k (bF F) (begV x y) (goV (begV x y) (stepV dx dy) 40)).length) ?_
      refine And.intro ⟨fun _ _ => trivial, m6⟩ ?_
      have s0 : (beforeE (nthB k (bF F) (hitsE k (bF F) (begV x y) (goV (begV x y) (stepV dx dy) 40)) ((i : Int) - 1).toNat) (nthB k (bF F) (hitsE k (bF F) (begV x y) (goV (begV x y) (stepV dx dy) 40)) i) (begV x y) (goV (begV x y) (stepV dx dy) 40)).2 + (beforeE (nthB k (bF F) (hitsE k (bF F) (begV x y) (goV (begV x y) (stepV dx dy) 40)) i) (nthB k (bF F) (hitsE k (bF F) (begV x y) (goV (begV x y) (stepV dx dy) 40)) ((i : Int) - 1).toNat) (begV x y) (goV (begV x y) (stepV dx dy) 40)).2 = 0 := by rw [enth, b1, b2]; rfl
      refine And.intro (i64_0 s0) ?_
      refine And.intro (fun _ => (by rw [enth, b2]; unfold I64; simp only; omega : I64 (-(beforeE (nthB k (bF F) (hitsE k (bF F) (begV x y) (goV (begV x y) (stepV dx dy) 40)) i) (nthB k (bF F) (hitsE k (bF F) (begV x y) (goV (begV x y) (stepV dx dy) 40)) ((i : Int) - 1).toNat) (begV x y) (goV (begV x y) (stepV dx dy) 40)).1))) ?_
      refine And.intro (fun hd => ?_) (fun hd => ?_)
      · have hd : (decide (¬ (beforeE (nthB k (bF F) (hitsE k (bF F) (begV x y) (goV (begV x y) (stepV dx dy) 40)) ((i : Int) - 1).toNat) (nthB k (bF F) (hitsE k (bF F) (begV x y) (goV (begV x y) (stepV dx dy) 40)) i) (begV x y) (goV (begV x y) (stepV dx dy) 40)).2 + (beforeE (nthB k (bF F) (hitsE k (bF F) (begV x y) (goV (begV x y) (stepV dx dy) 40)) i) (nthB k (bF F) (hitsE k (bF F) (begV x y) (goV (begV x y) (stepV dx dy) 40)) ((i : Int) - 1).toNat) (begV x y) (goV (begV x y) (stepV dx dy) 40)).2 = 0) || decide (0 < (beforeE (nthB k (bF F) (hitsE k (bF F) (begV x y) (goV (begV x y) (stepV dx dy) 40)) ((i : Int) - 1).toNat) (nthB k (bF F) (hitsE k (bF F) (begV x y) (goV (begV x y) (stepV dx dy) 40)) i) (begV x y) (goV (begV x y) (stepV dx dy) 40)).1) || decide (¬ (beforeE (nthB k (bF F) (hitsE k (bF F) (begV x y) (goV (begV x y) (stepV dx dy) 40)) ((i : Int) - 1).toNat) (nthB k (bF F) (hitsE k (bF F) (begV x y) (goV (begV x y) (stepV dx dy) 40)) i) (begV x y) (goV (begV x y) (stepV dx dy) 40)).1 = -(beforeE (nthB k (bF F) (hitsE k (bF F) (begV x y) (goV (begV x y) (stepV dx dy) 40)) i) (nthB k (bF F) (hitsE k (bF F) (begV x y) (goV (begV x y) (stepV dx dy) 40)) ((i : Int) - 1).toNat) (begV x y) (goV (begV x y) (stepV dx dy) 40)).1) || (decide ((beforeE (nthB k (bF F) (hitsE k (bF F) (begV x y) (goV (begV x y) (stepV dx dy) 40)) ((i : Int) - 1).toNat) (nthB k (bF F) (hitsE k (bF F) (begV x y) (goV (begV x y) (stepV dx dy) 40)) i) (begV x y) (goV (begV x y) (stepV dx dy) 40)).1 = 0) && decide ((nthB k (bF F) (hitsE k (bF F) (begV x y) (goV (begV x y) (stepV dx dy) 40)) i).iD ≤ (nthB k (bF F) (hitsE k (bF F) (begV x y) (goV (begV x y) (stepV dx dy) 40)) ((i : Int) - 1).toNat).iD))) = true := hd
        exfalso
        rw [s0, enth, b1, b2, a.id, a'.id] at hd
        simp only [Bool.or_eq_true, Bool.and_eq_true, decide_eq_true_eq] at hd
        have n2 := nx.2
        rcases hd with ((hd | hd) | hd) | hd
        · first | exact hd rfl | exact hd trivial
        · omega
        · omega
        · have := n2 hd.1
          omega
      · clear hd
        refine And.intro (by unfold I64; omega : I64 ((i : Int) + 1)) ?_
        refine ⟨i + 1, [], [], (by show (hitsE k (bF F) (begV x y) (goV (begV x y) (stepV dx dy) 40)).length - (i + 1) < (hitsE k (bF F) (begV x y) (goV (begV x y) (stepV dx dy) 40)).length - i; omega), (by omega : i + 1 ≤ (hitsE k (bF F) (begV x y) (goV (begV x y) (stepV dx dy) 40)).length), ?_⟩
        repeat' (first | (refine And.intro ?_ ?_) | (intro _) | exact rfl)
        all_goals exact hp1.symm
  have hb : ¬ (i : Int) < (hitsE k (bF F) (begV x y) (goV (begV x y) (stepV dx dy) 40)).length := of_decide_eq_false hb
  clear hb
  refine Exists.intro (ord3 k F (begV x y) (goV (begV x y) (stepV dx dy) 40) (stepV dx dy) (hitsE k (bF F) (begV x y) (goV (begV x y) (stepV dx dy) 40)) t) ?_
  refine And.intro ?_ ?_
  · refine ⟨((0 : Nat), (0 : Nat)), [], [], trivial, ⟨(by decide : (0 : Nat) ≤ 41), Nat.zero_le _, fun _ => rfl, fun n' e => by cases e⟩, ?_⟩
    repeat' (first | (refine And.intro ?_ ?_) | (intro _) | exact rfl)
  refine fun (x' : Nat × Nat) (hx' : x'.1 ≤ 41 ∧ Seen k (bF F) (begV x y) (stepV dx dy) (hitsE k (bF F) (begV x y) (goV (begV x y) (stepV dx dy) 40)) x'.1 x'.2) => ?_
  obtain ⟨n', s⟩ := x'
  obtain ⟨n1, n2, n3, n4⟩ : n' ≤ 41 ∧ Seen k (bF F) (begV x y) (stepV dx dy) (hitsE k (bF F) (begV x y) (goV (begV x y) (stepV dx dy) 40)) n' s := hx'
  have lim : (hitsE k (bF F) (begV x y) (goV (begV x y) (stepV dx dy) 40)).length ≤ 20 := by omega
  refine And.intro (fun hb => ?_) (fun hb => ?_)
  · have hb : (n' : Int) ≤ 40 := of_decide_eq_true hb
    obtain ⟨g1, g2, g3, g4⟩ := hN.go (n := n') (by omega)
    refine And.intro (by unfold I64; omega : I64 (n' * (stepV dx dy).x)) ?_
    refine And.intro (by unfold I64; simp only [goV] at g1; omega : I64 ((begV x y).x + n' * (stepV dx dy).x)) ?_
    refine And.intro (by unfold I64; omega : I64 (n' * (stepV dx dy).y)) ?_
    refine And.intro (by unfold I64; simp only [goV] at g2; omega : I64 ((begV x y).y + n' * (stepV dx dy).y)) ?_
    refine Exists.intro (ord4 k F (begV x y) (goV (begV x y) (stepV dx dy) 40) (stepV dx dy) (hitsE k (bF F) (begV x y) (goV (begV x y) (stepV dx dy) 40)) t n' s) ?_
    refine And.intro ?_ ?_
    · refine ⟨((0 : Nat), (0 : Nat)), [], [], trivial, ⟨Nat.le_refl 0, Nat.zero_le _, fun j hj => absurd hj (Nat.not_lt_zero _), fun j _ hj => absurd hj (Nat.not_lt_zero _)⟩, ?_⟩
      repeat' (first | (refine And.intro ?_ ?_) | (intro _) | exact rfl)
    refine fun (y' : Nat × Nat) (hy' : Cnt k (bF F) (begV x y) (stepV dx dy) (hitsE k (bF F) (begV x y) (goV (begV x y) (stepV dx dy) 40)) n' y'.1 y'.2) => ?_
    obtain ⟨j, c⟩ := y'
    obtain ⟨c1, c2, c3, c4⟩ : Cnt k (bF F) (begV x y) (stepV dx dy) (hitsE k (bF F) (begV x y) (goV (begV x y) (stepV dx dy) 40)) n' j c := hy'
    refine And.intro (fun hb2 => ?_) (fun hb2 => ?_)
    · have hb2 : (j : Int) < (hitsE k (bF F) (begV x y) (goV (begV x y) (stepV dx dy) 40)).length := of_decide_eq_true hb2
      have hj : j < (hitsE k (bF F) (begV x y) (goV (begV x y) (stepV dx dy) 40)).length := by omega
      refine And.intro ⟨by omega, by omega⟩ ?_
      refine And.intro ⟨fun _ _ => trivial, m6⟩ ?_
      refine And.intro (fun hc => ?_) (fun hc => ?_)
      · have hc : meetsB (nthB k (bF F) (hitsE k (bF F) (begV x y) (goV (begV x y) (stepV dx dy) 40)) j) (begV x y) (goV (begV x y) (stepV dx dy) n') = true := hc
        have hcj : c = j := by
          rcases Nat.lt_or_ge c j with h | h
          · have := hO.chain (n := n') (by omega) (d := j - c) (i := c) (k := j) (by omega) hj hc
            rw [c4 c (Nat.le_refl _) h] at this
            cases this
          · omega
        subst hcj
        refine And.intro (fun hd => ?_) (fun hd => ?_)
        · have hd : decide (¬ (c : Int) = c) = true := hd
          exact absurd rfl (of_decide_eq_true hd)
        clear hd
        refine And.intro (by unfold I64; omega : I64 ((c : Int) + 1)) ?_
        refine And.intro (by unfold I64; omega : I64 ((c : Int) + 1)) ?_
        refine ⟨(c + 1, c + 1), [], [], (by show (hitsE k (bF F) (begV x y) (goV (begV x y) (stepV dx dy) 40)).length - (c + 1) < (hitsE k (bF F) (begV x y) (goV (begV x y) (stepV dx dy) 40)).length - c; omega), ⟨Nat.le_refl _, hj, fun j' h => ?_, fun j' h1 h2 => by omega⟩, ?_⟩
        · rcases Nat.lt_or_ge j' c with h' | h'
          · exact c3 j' h'
          · rw [show j' = c by omega]; exact hc
        · repeat' (first | (refine And.intro ?_ ?_) | (intro _) | exact rfl)
      · have hc : meetsB (nthB k (bF F) (hitsE k (bF F) (begV x y) (goV (begV x y) (stepV dx dy) 40)) j) (begV x y) (goV (begV x y) (stepV dx dy) n') = false := hc
        refine And.intro (by unfold I64; omega : I64 ((j : Int) + 1)) ?_
        refine ⟨(j + 1, c), [], [], (by show (hitsE k (bF F) (begV x y) (goV (begV x y) (stepV dx dy) 40)).length - (j + 1) < (hitsE k (bF F) (begV x y) (goV (begV x y) (stepV dx dy) 40)).length - j; omega), ⟨by omega, hj, c3, fun j' h1 h2 => ?_⟩, ?_⟩
        · rcases Nat.lt_or_ge j' j with h' | h'
          · exact c4 j' h1 h'
          · rw [show j' = j by omega]; exact hc
        · repeat' (first | (refine And.intro ?_ ?_) | (intro _) | exact rfl)
    have hb2 : ¬ (j : Int) < (hitsE k (bF F) (begV x y) (goV (begV x y) (stepV dx dy) 40)).length := of_decide_eq_false hb2
    have ej : j = (hitsE k (bF F) (begV x y) (goV (begV x y) (stepV dx dy) 40)).length := by omega
    refine Exists.intro (ord5 k F (begV x y) (goV (begV x y) (stepV dx dy) 40) (stepV dx dy) (hitsE k (bF F) (begV x y) (goV (begV x y) (stepV dx dy) 40)) t n' s c) ?_
    refine And.intro ?_ ?_
    · refine ⟨(0 : Nat), [], [], trivial, Nat.zero_le _, ?_⟩
      repeat' (first | (refine And.intro ?_ ?_) | (intro _) | exact rfl)
    refine fun (z : Nat) (hz : z ≤ k) => ?_
    refine And.intro (fun hb3 => ?_) (fun hb3 => ?_)
    · have hb3 : (z : Int) < k := of_decide_eq_true hb3
      refine And.intro ⟨by omega, by omega⟩ ?_
      refine And.intro (fun hd => ?_) (fun hd => ?_)
      · have hd : (meetsB (bF F z) (begV x y) (goV (begV x y) (stepV dx dy) n') && !meetsB (bF F z) (begV x y) (goV (begV x y) (stepV dx dy) 40)) = true := hd
        exfalso
        simp only [Bool.and_eq_true, Bool.not_eq_true'] at hd
        have := ((hN.part_meets (hok z (by omega)) (n := 40) (i := n') (by decide) (by omega)).1 hd.1).1
        rw [hd.2] at this
        cases this
      · clear hd
        refine And.intro (by unfold I64; omega : I64 ((z : Int) + 1)) ?_
        refine ⟨z + 1, [], [], (by show k - (z + 1) < k - z; omega), (by omega : z + 1 ≤ k), ?_⟩
        repeat' (first | (refine And.intro ?_ ?_) | (intro _) | exact rfl)
    clear hb3
    have hsc : s ≤ c := by
      rcases Nat.lt_or_ge c s with h | h
      · exfalso
        cases n' with
        | zero => have := n3 rfl; omega
        | succ u =>
          have h1 := (n4 u rfl).1 c h
          have h2 := hO.grow (k := c) (n := u) (n' := u + 1) (by omega) (by omega) (by omega) h1
          rw [c4 c (Nat.le_refl _) (by omega)] at h2
          cases h2
      · exact h
    refine And.intro (fun hd => ?_) (fun hd => ?_)
    · have hd : (c : Int) < s := of_decide_eq_true hd
      omega
    clear hd
    refine And.intro (by unfold I64; omega : I64 ((n' : Int) + 1)) ?_
    refine ⟨(n' + 1, c), [], [], (by show 41 - (n' + 1) < 41 - n'; omega), ⟨(by omega : n' + 1 ≤ 41), (by omega), fun e => by omega, fun u e => ?_⟩, ?_⟩
    · obtain rfl : n' = u := by omega
      exact ⟨c3, fun j' h1 h2 => c4 j' h1 (by omega)⟩
    · repeat' (first | (refine And.intro ?_ ?_) | (intro _) | exact rfl)
  · have hb : ¬ (n' : Int) ≤ 40 := of_decide_eq_false hb
    have en : n' = 41 := by omega
    have hsl : s = (hitsE k (bF F) (begV x y) (goV (begV x y) (stepV dx dy) 40)).length := by
      rcases Nat.lt_or_ge s (hitsE k (bF F) (begV x y) (goV (begV x y) (stepV dx dy) 40)).length with h | h
      · exfalso
        have h1 : meetsB (nthB k (bF F) (hitsE k (bF F) (begV x y) (goV (begV x y) (stepV dx dy) 40)) s) (begV x y) (goV (begV x y) (stepV dx dy) 40) = false := (n4 40 en).2 s (Nat.le_refl _) h
        rw [hO.all h] at h1
        cases h1
      · omega
    refine Eq.trans (a := true) (b := decide (t = ((hitsE k (bF F) (begV x y) (goV (begV x y) (stepV dx dy) 40)).length : Int)) && decide ((s : Int) = t)) ?_ rfl
    rw [decide_eq_true (by omega), decide_eq_true (by omega)]
    rfl
end Go.Proofs.Ytcbpajkgmpibgaa
