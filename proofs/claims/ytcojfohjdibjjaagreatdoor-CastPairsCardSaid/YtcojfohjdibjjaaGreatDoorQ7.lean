/- filter, Inside, Crossed, SameInts. Inside, Crossed, SameInts. -/
import Derived.Test.YtcojfohjdibjjaaGreatDoorQ6
namespace Go.Proofs.YtcojfohjdibjjaaGreatDoor
open Go.RowKit

/-- The numbers below k for which g holds. -/
def filtL (g : Nat → Bool) : Nat → List Int
  | 0 => []
  | k + 1 => match g k with | true => filtL g k ++ [(k : Int)] | false => filtL g k
theorem filtL_len {g : Nat → Bool} : ∀ k, (filtL g k).length ≤ k
  | 0 => Nat.le_refl _
  | k + 1 => by
    have := filtL_len (g := g) k
    simp only [filtL]
    split
    · simp; omega
    · omega
theorem filtL_yes {g : Nat → Bool} {k : Nat} (h : g k = true) : filtL g (k + 1) = filtL g k ++ [(k : Int)] := by simp only [filtL, h]
theorem filtL_no {g : Nat → Bool} {k : Nat} (h : g k = false) : filtL g (k + 1) = filtL g k := by simp only [filtL, h]
theorem push_get (l : List Int) (x : Int) (i : Nat) (hi : i < l.length + 1) : (l ++ [x]).getD i 0 = bif Nat.ble l.length i then x else l.getD i 0 := by
  simp only [List.getD_eq_getElem?_getD]
  rcases Nat.lt_or_ge i l.length with h1 | h1
  · rw [List.getElem?_append_left h1, show Nat.ble l.length i = false by cases hb : Nat.ble l.length i with | false => rfl | true => exact absurd (Nat.le_of_ble_eq_true hb) (by omega)]
    rfl
  · rw [List.getElem?_append_right h1, show i - l.length = 0 by omega, show Nat.ble l.length i = true from Nat.ble_eq_true_of_le h1]
    rfl
theorem filtL_mem {g : Nat → Bool} {x : Int} : ∀ k, x ∈ filtL g k ↔ ∃ i : Nat, i < k ∧ x = i ∧ g i = true
  | 0 => by simp [filtL]
  | k + 1 => by
    have ih := filtL_mem (g := g) (x := x) k
    simp only [filtL]
    split
    · rename_i h
      rw [List.mem_append, ih, List.mem_singleton]
      constructor
      · rintro (⟨i, h1, h2, h3⟩ | rfl)
        · exact ⟨i, by omega, h2, h3⟩
        · exact ⟨k, by omega, rfl, h⟩
      · rintro ⟨i, h1, h2, h3⟩
        by_cases e : i = k
        · subst e; exact .inr h2
        · exact .inl ⟨i, by omega, h2, h3⟩
    · rename_i h
      rw [ih]
      constructor
      · rintro ⟨i, h1, h2, h3⟩
        exact ⟨i, by omega, h2, h3⟩
      · rintro ⟨i, h1, h2, h3⟩
        refine ⟨i, ?_, h2, h3⟩
        have : i ≠ k := fun e => by subst e; rw [h] at h3; cases h3
        omega
end Go.Proofs.YtcojfohjdibjjaaGreatDoor
namespace Go.Proofs.YtcojfohjdibjjaaGreatDoor
open Go.RowKit

def oneV (p : Vec) : Nat → Vec := fun _ => p
def twoV (p q : Vec) : Nat → Vec
  | 0 => p
  | _ + 1 => q
theorem badB_ok {n m : Nat} {F : Nat → Area} {G : Nat → Vec} (h : badB n F m G = false) : (n : Int) ≤ 128 ∧ (∀ i, i < n → (F i).ok = true) ∧ ∀ i, i < m → (G i).In := by
  unfold badB at h
  simp only [Bool.or_eq_false_iff, decide_eq_false_iff_not] at h
  obtain ⟨⟨h1, h2⟩, h3⟩ := h
  exact ⟨by omega, fun i hi => by simpa using anyN_no h2 i (Nat.zero_le _) (by omega), fun i hi => Vec.In.of (by simpa using anyN_no h3 i (Nat.zero_le _) (by omega))⟩
theorem badB_of {n m : Nat} {F : Nat → Area} {G : Nat → Vec} (h1 : (n : Int) ≤ 128) (h2 : ∀ i, i < n → (F i).ok = true) (h3 : ∀ i, i < m → (G i).In) : badB n F m G = false := by
  unfold badB
  rw [decide_eq_false (by omega), anyN_of (fun i _ hi => by rw [h2 i (by omega)]; rfl), anyN_of (fun i _ hi => by rw [Vec.inB_of (h3 i (by omega))]; rfl)]
  rfl
theorem Area.low_in {a : Area} (h : a.ok = true) : a.low.In ∧ a.high.In := by
  unfold Area.ok spanB at h
  simp only [Bool.and_eq_true, decide_eq_true_eq] at h
  obtain ⟨⟨⟨h1, h2⟩, h3⟩, ⟨h4, h5⟩, h6⟩ := h
  constructor <;> constructor <;> simp only [Area.low, Area.high] <;> omega
def insideE (n : Nat) (F : Nat → Area) (p : Vec) : List Int := match badB n F 1 (oneV p) with
  | true => []
  | false => filtL (fun i => hasA (F i) p) n
def insideR (n : Nat) (F : Nat → Area) (p : Vec) : Int := match badB n F 1 (oneV p) with
  | true => 2
  | false => 0
def crossR (n : Nat) (F : Nat → Area) (p q : Vec) : Int := match badB n F 2 (twoV p q) with
  | true => 2
  | false => match shortB p q with | true => 0 | false => 3
def crossG (i : Nat) (a : Area) (p q : Vec) : Bool := match i with
  | 0 => hasA a q && !hasA a p
  | 1 => hasA a p && !hasA a q
  | _ => entA a p q && !hasA a p && !hasA a q
def crossE (j : Nat) (n : Nat) (F : Nat → Area) (p q : Vec) : List Int := match decide (crossR n F p q = 0) with
  | true => filtL (fun i => crossG j (F i) p q) n
  | false => []
noncomputable def gCr : List (Con cx) := [conBad, conShort, conCr1, conCr2, conCr3]
def cutX1 (n : Nat) (F : Nat → Area) (p q : Vec) : Cut := ⟨Nat, fun k => k ≤ n,
  fun k => ⟨[sl 1 (.f (.func 36) [] [.p 1 0, .p 0 0]), sl 5 (.g 3 4 1 0 (filtL (fun i => crossG 0 (F i) p q) k).length), sl 8 (.rs 4 n fun i => (F i).cells), sl 9 (.v (.int .i64 n)), sl 10 (.v (.int .i64 k))], [(0, .lay p.cells 23), (1, .lay q.cells 23), (3, .lst 4 1 (filtL (fun i => crossG 0 (F i) p q) k).length (cellsI (filtL (fun i => crossG 0 (F i) p q) k)) 3)], 5, 0, [], []⟩, fun k => n - k⟩
set_option maxHeartbeats 4000000 in
set_option maxRecDepth 8000 in
theorem filtX1 (I : Inl) (n : Nat) (F : Nat → Area) (p q : Vec) (hn : (n : Int) ≤ 128) (K : SV → Heap → Nat → Prop) (hK : K (.g 3 4 1 0 (filtL (fun i => crossG 0 (F i) p q) n).length) [(0, .lay p.cells 23), (1, .lay q.cells 23), (3, .lst 4 1 (filtL (fun i => crossG 0 (F i) p q) n).length (cellsI (filtL (fun i => crossG 0 (F i) p q) n)) 3)] 5) :
    evC gCr I [35] ⟨[], [], [3], 0⟩ Tryz.f35 [.rs 4 n fun i => (F i).cells, (.f (.func 36) [] [.p 1 0, .p 0 0])] [(2, .lay [.v (.int .i64 p.x), .v (.int .i64 p.y), .v (.int .i64 q.x), .v (.int .i64 q.y)] 23), (1, .lay q.cells 23), (0, .lay p.cells 23)] 3 K := by
  refine Exists.intro (cutX1 n F p q) ?_
  refine And.intro ?_ ?_
  · refine ⟨(0 : Nat), [], [.slot2 5 1 3], trivial, Nat.zero_le _, ?_⟩
    repeat' (first | (refine And.intro ?_ ?_) | (intro _) | exact rfl)
    all_goals exact absurd ‹_ < 0› (Nat.not_lt_zero _)
  refine fun (k : Nat) (hk : k ≤ n) => ?_
  refine And.intro (fun hb => ?_) (fun hb => ?_)
  · have hb : (k : Int) < n := of_decide_eq_true hb
    refine And.intro ⟨by omega, by omega⟩ ?_
    refine And.intro ⟨⟨q, rfl⟩, ⟨p, rfl⟩⟩ ?_
    refine And.intro (fun hm => ?_) (fun hm => ?_)
    · have hm : (fun i => crossG 0 (F i) p q) k = true := hm
      have hlen := filtL_len (g := (fun i => crossG 0 (F i) p q)) k
      have hfit : fitO ((filtL (fun i => crossG 0 (F i) p q) k).length + 1) 8 := ⟨Nat.le_trans (by omega : (filtL (fun i => crossG 0 (F i) p q) k).length + 1 ≤ 1000) (by decide), by omega⟩
      refine And.intro ⟨hfit, fun _ _ _ => ⟨rfl, trivial⟩⟩ ?_
      refine And.intro (by unfold I64; omega : I64 ((k : Int) + 1)) ?_
      refine ⟨k + 1, [(4, 7)], [], (by show n - (k + 1) < n - k; omega), (by omega : k + 1 ≤ n), ?_⟩
      have e := filtL_yes (g := (fun i => crossG 0 (F i) p q)) hm
      repeat' (first | (refine And.intro ?_ ?_) | (intro _) | exact rfl)
      · exact (congrArg List.length e).trans List.length_append
      · exact (congrArg List.length e).trans List.length_append
      · exact (congrArg (fun l => List.getD l _ 0) e).trans (push_get _ _ _ ‹_›)
    · have hm : (fun i => crossG 0 (F i) p q) k = false := hm
      have e := filtL_no (g := (fun i => crossG 0 (F i) p q)) hm
      refine And.intro (by unfold I64; omega : I64 ((k : Int) + 1)) ?_
      refine ⟨k + 1, [], [], (by show n - (k + 1) < n - k; omega), (by omega : k + 1 ≤ n), ?_⟩
      repeat' (first | (refine And.intro ?_ ?_) | (intro _) | exact rfl)
      · exact congrArg List.length e
      · exact congrArg List.length e
      · exact congrArg (fun l => List.getD l _ 0) e
  · have hb : ¬ (k : Int) < n := of_decide_eq_false hb
    obtain rfl : k = n := by omega
    exact hK
def cutX2 (n : Nat) (F : Nat → Area) (p q : Vec) : Cut := ⟨Nat, fun k => k ≤ n,
  fun k => ⟨[sl 1 (.f (.func 38) [] [.p 0 0, .p 1 0]), sl 5 (.g 5 6 1 0 (filtL (fun i => crossG 1 (F i) p q) k).length), sl 8 (.rs 4 n fun i => (F i).cells), sl 9 (.v (.int .i64 n)), sl 10 (.v (.int .i64 k))], [(0, .lay p.cells 23), (1, .lay q.cells 23), (3, .lst 4 1 (filtL (fun i => crossG 0 (F i) p q) n).length (cellsI (filtL (fun i => crossG 0 (F i) p q) n)) 3), (5, .lst 6 1 (filtL (fun i => crossG 1 (F i) p q) k).length (cellsI (filtL (fun i => crossG 1 (F i) p q) k)) 3)], 7, 0, [], []⟩, fun k => n - k⟩
set_option maxHeartbeats 4000000 in
set_option maxRecDepth 8000 in
theorem filtX2 (I : Inl) (n : Nat) (F : Nat → Area) (p q : Vec) (hn : (n : Int) ≤ 128) (K : SV → Heap → Nat → Prop) (hK : K (.g 5 6 1 0 (filtL (fun i => crossG 1 (F i) p q) n).length) [(0, .lay p.cells 23), (1, .lay q.cells 23), (3, .lst 4 1 (filtL (fun i => crossG 0 (F i) p q) n).length (cellsI (filtL (fun i => crossG 0 (F i) p q) n)) 3), (5, .lst 6 1 (filtL (fun i => crossG 1 (F i) p q) n).length (cellsI (filtL (fun i => crossG 1 (F i) p q) n)) 3)] 7) :
    evC gCr I [35] ⟨[], [], [3], 0⟩ Tryz.f35 [.rs 4 n fun i => (F i).cells, (.f (.func 38) [] [.p 0 0, .p 1 0])] [(0, .lay p.cells 23), (1, .lay q.cells 23), (3, .lst 4 1 (filtL (fun i => crossG 0 (F i) p q) n).length (cellsI (filtL (fun i => crossG 0 (F i) p q) n)) 3)] 5 K := by
  refine Exists.intro (cutX2 n F p q) ?_
  refine And.intro ?_ ?_
  · refine ⟨(0 : Nat), [], [.slot2 5 1 3], trivial, Nat.zero_le _, ?_⟩
    repeat' (first | (refine And.intro ?_ ?_) | (intro _) | exact rfl)
    all_goals exact absurd ‹_ < 0› (Nat.not_lt_zero _)
  refine fun (k : Nat) (hk : k ≤ n) => ?_
  refine And.intro (fun hb => ?_) (fun hb => ?_)
  · have hb : (k : Int) < n := of_decide_eq_true hb
    refine And.intro ⟨by omega, by omega⟩ ?_
    refine And.intro ⟨⟨p, rfl⟩, ⟨q, rfl⟩⟩ ?_
    refine And.intro (fun hm => ?_) (fun hm => ?_)
    · have hm : (fun i => crossG 1 (F i) p q) k = true := hm
      have hlen := filtL_len (g := (fun i => crossG 1 (F i) p q)) k
      have hfit : fitO ((filtL (fun i => crossG 1 (F i) p q) k).length + 1) 8 := ⟨Nat.le_trans (by omega : (filtL (fun i => crossG 1 (F i) p q) k).length + 1 ≤ 1000) (by decide), by omega⟩
      refine And.intro ⟨hfit, fun _ _ _ => ⟨rfl, trivial⟩⟩ ?_
      refine And.intro (by unfold I64; omega : I64 ((k : Int) + 1)) ?_
      refine ⟨k + 1, [(6, 9)], [], (by show n - (k + 1) < n - k; omega), (by omega : k + 1 ≤ n), ?_⟩
      have e := filtL_yes (g := (fun i => crossG 1 (F i) p q)) hm
      repeat' (first | (refine And.intro ?_ ?_) | (intro _) | exact rfl)
      · exact (congrArg List.length e).trans List.length_append
      · exact (congrArg List.length e).trans List.length_append
      · exact (congrArg (fun l => List.getD l _ 0) e).trans (push_get _ _ _ ‹_›)
    · have hm : (fun i => crossG 1 (F i) p q) k = false := hm
      have e := filtL_no (g := (fun i => crossG 1 (F i) p q)) hm
      refine And.intro (by unfold I64; omega : I64 ((k : Int) + 1)) ?_
      refine ⟨k + 1, [], [], (by show n - (k + 1) < n - k; omega), (by omega : k + 1 ≤ n), ?_⟩
      repeat' (first | (refine And.intro ?_ ?_) | (intro _) | exact rfl)
      · exact congrArg List.length e
      · exact congrArg List.length e
      · exact congrArg (fun l => List.getD l _ 0) e
  · have hb : ¬ (k : Int) < n := of_decide_eq_false hb
    obtain rfl : k = n := by omega
    exact hK
def cutX3 (n : Nat) (F : Nat → Area) (p q : Vec) : Cut := ⟨Nat, fun k => k ≤ n,
  fun k => ⟨[sl 1 (.f (.func 39) [] [.p 0 0, .p 1 0]), sl 5 (.g 7 8 1 0 (filtL (fun i => crossG 2 (F i) p q) k).length), sl 8 (.rs 4 n fun i => (F i).cells), sl 9 (.v (.int .i64 n)), sl 10 (.v (.int .i64 k))], [(0, .lay p.cells 23), (1, .lay q.cells 23), (3, .lst 4 1 (filtL (fun i => crossG 0 (F i) p q) n).length (cellsI (filtL (fun i => crossG 0 (F i) p q) n)) 3), (5, .lst 6 1 (filtL (fun i => crossG 1 (F i) p q) n).length (cellsI (filtL (fun i => crossG 1 (F i) p q) n)) 3), (7, .lst 8 1 (filtL (fun i => crossG 2 (F i) p q) k).length (cellsI (filtL (fun i => crossG 2 (F i) p q) k)) 3)], 9, 0, [], []⟩, fun k => n - k⟩
set_option maxHeartbeats 4000000 in
set_option maxRecDepth 8000 in
theorem filtX3 (I : Inl) (n : Nat) (F : Nat → Area) (p q : Vec) (hn : (n : Int) ≤ 128) (he : ∀ i, i < n → EntPre (F i) p q) (K : SV → Heap → Nat → Prop) (hK : K (.g 7 8 1 0 (filtL (fun i => crossG 2 (F i) p q) n).length) [(0, .lay p.cells 23), (1, .lay q.cells 23), (3, .lst 4 1 (filtL (fun i => crossG 0 (F i) p q) n).length (cellsI (filtL (fun i => crossG 0 (F i) p q) n)) 3), (5, .lst 6 1 (filtL (fun i => crossG 1 (F i) p q) n).length (cellsI (filtL (fun i => crossG 1 (F i) p q) n)) 3), (7, .lst 8 1 (filtL (fun i => crossG 2 (F i) p q) n).length (cellsI (filtL (fun i => crossG 2 (F i) p q) n)) 3)] 9) :
    evC gCr I [35] ⟨[], [], [3], 0⟩ Tryz.f35 [.rs 4 n fun i => (F i).cells, (.f (.func 39) [] [.p 0 0, .p 1 0])] [(0, .lay p.cells 23), (1, .lay q.cells 23), (3, .lst 4 1 (filtL (fun i => crossG 0 (F i) p q) n).length (cellsI (filtL (fun i => crossG 0 (F i) p q) n)) 3), (5, .lst 6 1 (filtL (fun i => crossG 1 (F i) p q) n).length (cellsI (filtL (fun i => crossG 1 (F i) p q) n)) 3)] 7 K := by
  refine Exists.intro (cutX3 n F p q) ?_
  refine And.intro ?_ ?_
  · refine ⟨(0 : Nat), [], [.slot2 5 1 3], trivial, Nat.zero_le _, ?_⟩
    repeat' (first | (refine And.intro ?_ ?_) | (intro _) | exact rfl)
    all_goals exact absurd ‹_ < 0› (Nat.not_lt_zero _)
  refine fun (k : Nat) (hk : k ≤ n) => ?_
  refine And.intro (fun hb => ?_) (fun hb => ?_)
  · have hb : (k : Int) < n := of_decide_eq_true hb
    refine And.intro ⟨by omega, by omega⟩ ?_
    refine And.intro ⟨⟨p, rfl⟩, ⟨q, rfl⟩, he k (by omega)⟩ ?_
    refine And.intro (fun hm => ?_) (fun hm => ?_)
    · have hm : (fun i => crossG 2 (F i) p q) k = true := hm
      have hlen := filtL_len (g := (fun i => crossG 2 (F i) p q)) k
      have hfit : fitO ((filtL (fun i => crossG 2 (F i) p q) k).length + 1) 8 := ⟨Nat.le_trans (by omega : (filtL (fun i => crossG 2 (F i) p q) k).length + 1 ≤ 1000) (by decide), by omega⟩
      refine And.intro ⟨hfit, fun _ _ _ => ⟨rfl, trivial⟩⟩ ?_
      refine And.intro (by unfold I64; omega : I64 ((k : Int) + 1)) ?_
      refine ⟨k + 1, [(8, 11)], [], (by show n - (k + 1) < n - k; omega), (by omega : k + 1 ≤ n), ?_⟩
      have e := filtL_yes (g := (fun i => crossG 2 (F i) p q)) hm
      repeat' (first | (refine And.intro ?_ ?_) | (intro _) | exact rfl)
      · exact (congrArg List.length e).trans List.length_append
      · exact (congrArg List.length e).trans List.length_append
      · exact (congrArg (fun l => List.getD l _ 0) e).trans (push_get _ _ _ ‹_›)
    · have hm : (fun i => crossG 2 (F i) p q) k = false := hm
      have e := filtL_no (g := (fun i => crossG 2 (F i) p q)) hm
      refine And.intro (by unfold I64; omega : I64 ((k : Int) + 1)) ?_
      refine ⟨k + 1, [], [], (by show n - (k + 1) < n - k; omega), (by omega : k + 1 ≤ n), ?_⟩
      repeat' (first | (refine And.intro ?_ ?_) | (intro _) | exact rfl)
      · exact congrArg List.length e
      · exact congrArg List.length e
      · exact congrArg (fun l => List.getD l _ 0) e
  · have hb : ¬ (k : Int) < n := of_decide_eq_false hb
    obtain rfl : k = n := by omega
    exact hK
noncomputable def inFilt : FnI cx := ⟨35, Tryz.call35, Tryz.f35, Tryz.func35, [], [], [3], 0, by kernel_rfl⟩
set_option maxHeartbeats 4000000 in
set_option maxRecDepth 8000 in
theorem crs_ev (I : Inl) (n : Nat) (F : Nat → Area) (p q : Vec) (hn : (n : Int) ≤ 1000000) (hI1 : (n : Int) ≤ 128 → ∀ K : SV → Heap → Nat → Prop, K (.g 3 4 1 0 (filtL (fun i => crossG 0 (F i) p q) n).length) [(0, .lay p.cells 23), (1, .lay q.cells 23), (3, .lst 4 1 (filtL (fun i => crossG 0 (F i) p q) n).length (cellsI (filtL (fun i => crossG 0 (F i) p q) n)) 3)] 5 → I 35 [.rs 4 n fun i => (F i).cells, (.f (.func 36) [] [.p 1 0, .p 0 0])] [(2, .lay [.v (.int .i64 p.x), .v (.int .i64 p.y), .v (.int .i64 q.x), .v (.int .i64 q.y)] 23), (1, .lay q.cells 23), (0, .lay p.cells 23)] 3 K) (hI2 : (n : Int) ≤ 128 → ∀ K : SV → Heap → Nat → Prop, K (.g 5 6 1 0 (filtL (fun i => crossG 1 (F i) p q) n).length) [(0, .lay p.cells 23), (1, .lay q.cells 23), (3, .lst 4 1 (filtL (fun i => crossG 0 (F i) p q) n).length (cellsI (filtL (fun i => crossG 0 (F i) p q) n)) 3), (5, .lst 6 1 (filtL (fun i => crossG 1 (F i) p q) n).length (cellsI (filtL (fun i => crossG 1 (F i) p q) n)) 3)] 7 → I 35 [.rs 4 n fun i => (F i).cells, (.f (.func 38) [] [.p 0 0, .p 1 0])] [(0, .lay p.cells 23), (1, .lay q.cells 23), (3, .lst 4 1 (filtL (fun i => crossG 0 (F i) p q) n).length (cellsI (filtL (fun i => crossG 0 (F i) p q) n)) 3)] 5 K) (hI3 : (n : Int) ≤ 128 → (∀ i, i < n → EntPre (F i) p q) → ∀ K : SV → Heap → Nat → Prop, K (.g 7 8 1 0 (filtL (fun i => crossG 2 (F i) p q) n).length) [(0, .lay p.cells 23), (1, .lay q.cells 23), (3, .lst 4 1 (filtL (fun i => crossG 0 (F i) p q) n).length (cellsI (filtL (fun i => crossG 0 (F i) p q) n)) 3), (5, .lst 6 1 (filtL (fun i => crossG 1 (F i) p q) n).length (cellsI (filtL (fun i => crossG 1 (F i) p q) n)) 3), (7, .lst 8 1 (filtL (fun i => crossG 2 (F i) p q) n).length (cellsI (filtL (fun i => crossG 2 (F i) p q) n)) 3)] 9 → I 35 [.rs 4 n fun i => (F i).cells, (.f (.func 39) [] [.p 0 0, .p 1 0])] [(0, .lay p.cells 23), (1, .lay q.cells 23), (3, .lst 4 1 (filtL (fun i => crossG 0 (F i) p q) n).length (cellsI (filtL (fun i => crossG 0 (F i) p q) n)) 3), (5, .lst 6 1 (filtL (fun i => crossG 1 (F i) p q) n).length (cellsI (filtL (fun i => crossG 1 (F i) p q) n)) 3)] 7 K) :
    evC gCr I [35] noHow Tryz.f16 ((rds3 rdAreas rdVec rdVec).enc ((n, F), p, q)) [] 0 fun v H _ => resOutF (.tup [.rs 1 (crossE 0 n F p q).length (cellsI (crossE 0 n F p q)), .rs 1 (crossE 1 n F p q).length (cellsI (crossE 1 n F p q)), .rs 1 (crossE 2 n F p q).length (cellsI (crossE 2 n F p q)), .v (.int .i64 (crossR n F p q))]) H v := by
  refine And.intro ⟨fun _ _ => trivial, two_al trivial trivial, (by decide : (2 : Int) ≤ 1000)⟩ ?_
  refine And.intro (fun hb => ?_) (fun hb => ?_)
  · have hb : badB n F 2 (twoV p q) = true := hb
    have e2 : crossR n F p q = 2 := by unfold crossR; rw [hb]
    have e1 : ∀ j, crossE j n F p q = [] := fun j => by unfold crossE; rw [e2]; rfl
    simp only [e1, e2]
    repeat' (first | (refine And.intro ?_ ?_) | (intro _) | exact rfl)
  have hb : badB n F 2 (twoV p q) = false := hb
  obtain ⟨h1, h2, h3⟩ := badB_ok hb
  have ip : p.In := h3 0 (by omega)
  have iq : q.In := h3 1 (by omega)
  refine And.intro ⟨ip, iq⟩ ?_
  refine And.intro (fun hs => ?_) (fun hs => ?_)
  · have hs : (!shortB p q) = true := hs
    have hs : shortB p q = false := by simpa using hs
    have e2 : crossR n F p q = 3 := by unfold crossR; rw [hb, hs]
    have e1 : ∀ j, crossE j n F p q = [] := fun j => by unfold crossE; rw [e2]; rfl
    simp only [e1, e2]
    repeat' (first | (refine And.intro ?_ ?_) | (intro _) | exact rfl)
  · have hs : (!shortB p q) = false := hs
    have hs : shortB p q = true := by simpa using hs
    have e2 : crossR n F p q = 0 := by unfold crossR; rw [hb, hs]
    have e1 : ∀ j, crossE j n F p q = filtL (fun i => crossG j (F i) p q) n := fun j => by unfold crossE; rw [e2]; rfl
    simp only [e1, e2]
    refine hI1 h1 _ ?_
    refine hI2 h1 _ ?_
    refine hI3 h1 (fun i hi => ⟨(Area.low_in (h2 i hi)).1, (Area.low_in (h2 i hi)).2, ip, iq⟩) _ ?_
    refine And.intro ⟨fun _ _ => rfl, fun _ _ => rfl, fun _ _ => rfl⟩ ?_
    refine And.intro rfl ?_
    refine And.intro (fun i _ => congrArg (fun m => (filtL (fun i => crossG 0 (F i) p q) n).getD m 0) (Nat.zero_add i).symm) ?_
    refine And.intro rfl ?_
    refine And.intro (fun i _ => congrArg (fun m => (filtL (fun i => crossG 1 (F i) p q) n).getD m 0) (Nat.zero_add i).symm) ?_
    refine And.intro rfl ?_
    refine And.intro (fun i _ => congrArg (fun m => (filtL (fun i => crossG 2 (F i) p q) n).getD m 0) (Nat.zero_add i).symm) rfl
noncomputable def conCrs : Con cx := walkConF 16 Tryz.call16 (rds3 rdAreas rdVec rdVec) (fun a => [(a.1.1 : Int) ≤ 1000000]) (fun a => .tup [.rs 1 (crossE 0 a.1.1 a.1.2 a.2.1 a.2.2).length (cellsI (crossE 0 a.1.1 a.1.2 a.2.1 a.2.2)), .rs 1 (crossE 1 a.1.1 a.1.2 a.2.1 a.2.2).length (cellsI (crossE 1 a.1.1 a.1.2 a.2.1 a.2.2)), .rs 1 (crossE 2 a.1.1 a.1.2 a.2.1 a.2.2).length (cellsI (crossE 2 a.1.1 a.1.2 a.2.1 a.2.2)), .v (.int .i64 (crossR a.1.1 a.1.2 a.2.1 a.2.2))]) (fun _ => noHow) [] (fun _ => rfl) follows Tryz.func16 (by kernel_rfl)
  fun ⟨⟨n, F⟩, p, q⟩ hn => crs_ev (inlD gCr [inFilt] 1) n F p q hn (fun h1 K hK => filtX1 (inlD gCr [inFilt] 0) n F p q h1 K hK) (fun h1 K hK => filtX2 (inlD gCr [inFilt] 0) n F p q h1 K hK) (fun h1 he K hK => filtX3 (inlD gCr [inFilt] 0) n F p q h1 he K hK)
/-- Are the numbers from the k-th on the same? -/
def eqN (f g : Nat → Int) : Nat → Nat → Bool
  | _, 0 => true
  | k, r + 1 => match decide (¬ f k = g k) with | true => false | false => eqN f g (k + 1) r
theorem eqN_step {f g : Nat → Int} {k n : Nat} (h : k < n) : eqN f g k (n - k) = match decide (¬ f k = g k) with | true => false | false => eqN f g (k + 1) (n - (k + 1)) := by
  rw [show n - k = (n - (k + 1)) + 1 by omega]; rfl
theorem eqN_iff {f g : Nat → Int} : ∀ {r k : Nat}, eqN f g k r = true ↔ ∀ i, k ≤ i → i < k + r → f i = g i
  | 0, k => by simp only [eqN, true_iff]; intro i h1 h2; omega
  | r + 1, k => by
    simp only [eqN]
    split
    · rename_i h
      have h := of_decide_eq_true h
      simp only [Bool.false_eq_true, false_iff]
      exact fun c => h (c k (Nat.le_refl _) (by omega))
    · rename_i h
      have h : f k = g k := by simpa using h
      rw [eqN_iff]
      constructor
      · intro c i h1 h2
        rcases Nat.eq_or_lt_of_le h1 with rfl | h1
        · exact h
        · exact c i h1 (by omega)
      · intro c i h1 h2
        exact c i (by omega) (by omega)
def sameF (f g : Fam) : Bool := match decide (¬ (f.n : Int) = g.n) with
  | true => false
  | false => eqN f.g g.g 0 f.n
def sameCut (f g : Fam) : Cut := ⟨Nat, fun k => k ≤ f.n ∧ eqN f.g g.g 0 f.n = eqN f.g g.g k (f.n - k),
  fun k => ⟨[sl 0 (.rs 1 f.n fun i => [.v (.int .i64 (f.g i))]), sl 1 (.rs 1 g.n fun i => [.v (.int .i64 (g.g i))]), sl 5 (.v (.int .i64 k))], [], 0, 0, [], []⟩, fun k => f.n - k⟩
set_option maxHeartbeats 4000000 in
set_option maxRecDepth 8000 in
theorem Sme_walk : ∀ a, conj ((fun a => [(a.1.n : Int) ≤ 1000000]) a) → evFn (C := cx) [] [] 0 ⟨[], [], [4], 0⟩ Tryz.f18 (((rds2 (rdF .i64) (rdF .i64))).enc a) fun v H _ => resOut ((fun a => .v (.bool (sameF a.1 a.2))) a) H v := by
  intro ⟨f, g⟩ hn
  replace hn : (f.n : Int) ≤ 1000000 := hn
  refine And.intro (fun hb => ?_) (fun hb => ?_)
  · have hb : decide (¬ (f.n : Int) = g.n) = true := hb
    refine Eq.trans (a := sameF f g) (b := false) ?_ rfl
    unfold sameF; rw [hb]
  have hb : decide (¬ (f.n : Int) = g.n) = false := hb
  have hl : (f.n : Int) = g.n := by simpa using hb
  refine Exists.intro (sameCut f g) ?_
  refine And.intro ?_ ?_
  · refine ⟨(0 : Nat), [], [], trivial, ⟨Nat.zero_le _, rfl⟩, ?_⟩
    repeat' (first | (refine And.intro ?_ ?_) | (intro _) | exact rfl)
  refine fun (k : Nat) (hk : k ≤ f.n ∧ eqN f.g g.g 0 f.n = eqN f.g g.g k (f.n - k)) => ?_
  obtain ⟨k1, k2⟩ := hk
  refine And.intro (fun hc => ?_) (fun hc => ?_)
  · have hc : (k : Int) < f.n := of_decide_eq_true hc
    have e := eqN_step (f := f.g) (g := g.g) (k := k) (n := f.n) (by omega)
    refine And.intro ⟨by omega, by omega⟩ ?_
    refine And.intro ⟨by omega, by omega⟩ ?_
    refine And.intro (fun hd => ?_) (fun hd => ?_)
    · have hd : decide (¬ f.g k = g.g k) = true := hd
      refine Eq.trans (a := sameF f g) (b := false) ?_ rfl
      unfold sameF; rw [hb, k2, e, hd]
    · have hd : decide (¬ f.g k = g.g k) = false := hd
      refine And.intro (by unfold I64; omega : I64 ((k : Int) + 1)) ?_
      refine ⟨k + 1, [], [], (by show f.n - (k + 1) < f.n - k; omega), ⟨by omega, by rw [k2, e, hd]⟩, ?_⟩
      repeat' (first | (refine And.intro ?_ ?_) | (intro _) | exact rfl)
  · have hc : ¬ (k : Int) < f.n := of_decide_eq_false hc
    refine Eq.trans (a := sameF f g) (b := true) ?_ rfl
    unfold sameF; rw [hb, k2, show f.n - k = 0 by omega]
    rfl
noncomputable def conSme : Con cx := walkCon 18 Tryz.call18 (rds2 (rdF .i64) (rdF .i64)) (fun a => [(a.1.n : Int) ≤ 1000000]) (fun a => .v (.bool (sameF a.1 a.2))) (fun _ => ⟨[], [], [4], 0⟩) [] (fun _ => rfl) follows Tryz.func18 (by kernel_rfl) Sme_walk
end Go.Proofs.YtcojfohjdibjjaaGreatDoor
