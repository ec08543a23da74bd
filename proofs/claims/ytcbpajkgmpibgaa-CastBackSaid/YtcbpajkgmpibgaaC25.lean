/- CastCrossed: plain laws; the closure that looks for a number. -/
import Derived.Test.YtcbpajkgmpibgaaC21
namespace Go.Proofs.Ytcbpajkgmpibgaa
open Go.RowKit

/-- Is a number in a row? -/
def memF (f : Fam) (n : Int) : Bool := anyN (fun i => decide (f.g i = n)) 0 f.n
def memCut (f : Fam) (n : Int) : Cut := ⟨Nat, fun k => k ≤ f.n ∧ anyN (fun i => decide (f.g i = n)) 0 f.n = anyN (fun i => decide (f.g i = n)) k (f.n - k),
  fun k => ⟨[sl 1 (.v (.int .i64 n)), sl 7 (.rs 1 f.n fun i => [.v (.int .i64 (f.g i))]), sl 8 (.v (.int .i64 f.n)), sl 9 (.v (.int .i64 k))], [], 0, 0, [], []⟩, fun k => f.n - k⟩
set_option maxHeartbeats 2000000 in
set_option maxRecDepth 8000 in
theorem Mem_walk : ∀ a, conj ((fun a => [(a.1.n : Int) ≤ 1000000]) a) → evFn (C := cx) [] [] 0 ⟨[], [], [2], 0⟩ Try.f26 (((rds2 (rdF .i64) (rdI .i64))).enc a) fun v H _ => resOut ((fun a => .v (.bool (memF a.1 a.2))) a) H v := by
  intro ⟨f, n⟩ hn
  replace hn : (f.n : Int) ≤ 1000000 := hn
  refine Exists.intro (memCut f n) ?_
  refine And.intro ?_ ?_
  · refine ⟨(0 : Nat), [], [], trivial, ⟨Nat.zero_le _, rfl⟩, ?_⟩
    repeat' (first | (refine And.intro ?_ ?_) | (intro _) | exact rfl)
  refine fun (k : Nat) (hk : k ≤ f.n ∧ anyN (fun i => decide (f.g i = n)) 0 f.n = anyN (fun i => decide (f.g i = n)) k (f.n - k)) => ?_
  obtain ⟨k1, k2⟩ := hk
  refine And.intro (fun hb => ?_) (fun hb => ?_)
  · have hb : (k : Int) < f.n := of_decide_eq_true hb
    have e := anyN_step (g := fun i => decide (f.g i = n)) (k := k) (n := f.n) (by omega)
    refine And.intro ⟨by omega, by omega⟩ ?_
    refine And.intro (fun hc => ?_) (fun hc => ?_)
    · have hc : decide (f.g k = n) = true := hc
      simp only [hc] at e
      refine Eq.trans (a := memF f n) (b := true) ?_ rfl
      unfold memF; rw [k2, e]
    · have hc : decide (f.g k = n) = false := hc
      simp only [hc] at e
      refine And.intro (by unfold I64; omega : I64 ((k : Int) + 1)) ?_
      refine ⟨k + 1, [], [], (by show f.n - (k + 1) < f.n - k; omega), ⟨by omega, by rw [k2, e]⟩, ?_⟩
      repeat' (first | (refine And.intro ?_ ?_) | (intro _) | exact rfl)
  · have hb : ¬ (k : Int) < f.n := of_decide_eq_false hb
    refine Eq.trans (a := memF f n) (b := false) ?_ rfl
    unfold memF; rw [k2, show f.n - k = 0 by omega]; rfl
noncomputable def conMem : Con cx := walkCon 26 Try.call26 (rds2 (rdF .i64) (rdI .i64)) (fun a => [(a.1.n : Int) ≤ 1000000]) (fun a => .v (.bool (memF a.1 a.2))) (fun _ => ⟨[], [], [2], 0⟩) [] (fun _ => rfl) follows Try.func26 (by kernel_rfl) Mem_walk
/-- A row of numbers, as a list. -/
def lF (l : List Int) : Fam := ⟨l.length, fun i => (hdS (cellsI l i)).iv⟩
theorem memF_iff {l : List Int} {n : Int} : memF (lF l) n = true ↔ n ∈ l := by
  unfold memF
  have hg : ∀ i, (lF l).g i = l.getD i 0 := fun i => rfl
  constructor
  · intro h
    by_cases hn : n ∈ l
    · exact hn
    · rw [anyN_of fun i _ hi => decide_eq_false fun e => hn (by
        rw [hg, List.getD_eq_getElem?_getD] at e
        have hi : i < l.length := by have : i < 0 + (lF l).n := hi; simpa [lF] using this
        rw [List.getElem?_eq_getElem hi] at e
        rw [← e]
        exact List.getElem_mem hi)] at h
      cases h
  · intro h
    cases hc : anyN (fun i => decide ((lF l).g i = n)) 0 (lF l).n with
    | true => rfl
    | false =>
      obtain ⟨i, hi, e⟩ := List.getElem_of_mem h
      have := anyN_no hc i (Nat.zero_le _) (by show i < 0 + l.length; omega)
      have this := of_decide_eq_false this
      exfalso
      apply this
      rw [hg, List.getD_eq_getElem?_getD, List.getElem?_eq_getElem hi]
      exact e
theorem memF_filt {g : Nat → Bool} {m k : Nat} (hk : k < m) : memF (lF (filtL g m)) k = g k := by
  rw [Bool.eq_iff_iff, memF_iff, filtL_mem]
  constructor
  · rintro ⟨i, h1, h2, h3⟩
    obtain rfl : k = i := by omega
    exact h3
  · intro h
    exact ⟨k, hk, rfl, h⟩
/-- The bounds of a body. -/
def arB (b : Body) : Area := ⟨b.low.x, b.low.y, b.high.x, b.high.y⟩
theorem arB_ok {b : Body} (h : b.Sm) : (arB b).ok = true := by
  obtain ⟨e1, e2⟩ := low_eq h.ok
  have h2 := h.x
  have h3 := h.y
  have h4 := h.w
  have h5 := h.h
  unfold Area.ok spanB arB
  rw [e1, e2]
  simp only [Bool.and_eq_true, decide_eq_true_eq]
  omega
theorem hasA_iff {a : Area} {s : Vec} : hasA a s = true ↔ (a.lowX ≤ s.x ∧ s.x ≤ a.highX) ∧ a.lowY ≤ s.y ∧ s.y ≤ a.highY := by
  unfold hasA
  simp only [Bool.and_eq_true, decide_eq_true_eq]
  exact ⟨fun ⟨⟨⟨h1, h2⟩, h3⟩, h4⟩ => ⟨⟨h1, h2⟩, h3, h4⟩, fun ⟨⟨h1, h2⟩, h3, h4⟩ => ⟨⟨⟨h1, h2⟩, h3⟩, h4⟩⟩
theorem entA_iff {a : Area} {p q : Vec} : entA a p q = true ↔ ∃ u c, 0 < c ∧ 0 ≤ u ∧ u ≤ c ∧ Slabs a.low a.high p q u c := by
  unfold entA
  constructor
  · intro h
    obtain ⟨r, e0, e1, e2, -⟩ := enter_yes h
    exact ⟨_, _, r.m, e0, e1, e2⟩
  · rintro ⟨u, c, hc, hu, huc, hs⟩
    cases e : (enterP a.low a.high p q).2 with
    | true => rfl
    | false => exact absurd hs (enter_no e hc hu huc)
theorem slabs_rev {l h p q : Vec} {u c : Int} (k : Slabs l h p q u c) : Slabs l h q p (c - u) c := by
  obtain ⟨⟨k1, k2⟩, k3, k4⟩ := k
  have e1 : c * q.x + (c - u) * (p.x - q.x) = c * p.x + u * (q.x - p.x) := by grind
  have e2 : c * q.y + (c - u) * (p.y - q.y) = c * p.y + u * (q.y - p.y) := by grind
  exact ⟨⟨by rw [e1]; exact k1, by rw [e1]; exact k2⟩, by rw [e2]; exact k3, by rw [e2]; exact k4⟩
theorem entA_rev (a : Area) (p q : Vec) : entA a p q = entA a q p := by
  have one : ∀ p q : Vec, entA a p q = true → entA a q p = true := fun p q h => by
    obtain ⟨u, c, hc, hu, huc, hs⟩ := entA_iff.1 h
    exact entA_iff.2 ⟨c - u, c, hc, by omega, by omega, slabs_rev hs⟩
  rw [Bool.eq_iff_iff]
  exact ⟨one p q, one q p⟩
/-- An area that has a point of a segment is entered. -/
theorem has_entA {a : Area} {p v : Vec} {i n : Int} (hn : 0 < n) (hi : 0 ≤ i) (hin : i ≤ n) (h : hasA a (goV p v i) = true) : entA a p (goV p v n) = true := by
  obtain ⟨⟨h1, h2⟩, h3, h4⟩ := hasA_iff.1 h
  refine entA_iff.2 ⟨i, n, hn, hi, hin, ?_⟩
  have x1 : (goV p v i).x = p.x + i * v.x := rfl
  have y1 : (goV p v i).y = p.y + i * v.y := rfl
  rw [x1] at h1 h2
  rw [y1] at h3 h4
  have g : ∀ x y : Int, x ≤ y → n * x ≤ n * y := fun x y h => Int.mul_le_mul_of_nonneg_left h (by omega)
  have ex : n * p.x + i * (n * v.x) = n * (p.x + i * v.x) := by grind
  have ey : n * p.y + i * (n * v.y) = n * (p.y + i * v.y) := by grind
  refine ⟨⟨?_, ?_⟩, ?_, ?_⟩
  · rw [goV_x, ex]; exact g _ _ h1
  · rw [goV_x, ex]; exact g _ _ h2
  · rw [goV_y, ey]; exact g _ _ h3
  · rw [goV_y, ey]; exact g _ _ h4
/-- The box whose bounds an area is. -/
theorem box_meets {b : Body} (h : b.Sm) {p q : Vec} (hp : p.In) (hq : q.In) (hs : shortB p q = true) : meetsB (boxB 1 b.posX b.posY b.w b.h) p q = entA (arB b) p q := by
  have hsm : (boxB 1 b.posX b.posY b.w b.h).Sm := ⟨(⟨by decide, by decide⟩ : (0 : Int) ≤ 1 ∧ (1 : Int) ≤ 1000), h.x, h.y, h.w, h.h, (fun c => by cases (show false = true from c)), ⟨rfl, rfl⟩⟩
  have hk := hsm.ok
  rw [meets_eq hk hp hq hs]
  obtain ⟨e1, e2⟩ := low_eq hk
  obtain ⟨e3, e4⟩ := low_eq h.ok
  have hr : (boxB 1 b.posX b.posY b.w b.h).round = false := rfl
  unfold whereP
  rw [hr]
  simp only [Bool.not_false, Bool.or_true]
  unfold Body.ent entA Area.low Area.high arB
  rw [e1, e2, e3, e4]
  rfl
theorem inside_ok {n : Nat} {F : Nat → Area} {p : Vec} (hn : (n : Int) ≤ 128) (hF : ∀ i, i < n → (F i).ok = true) (hp : p.In) : insideR n F p = 0 ∧ insideE n F p = filtL (fun i => hasA (F i) p) n := by
  have hb : badB n F 1 (oneV p) = false := badB_of hn hF fun i _ => hp
  unfold insideR insideE
  rw [hb]
  exact ⟨rfl, rfl⟩
theorem cross_ok {n : Nat} {F : Nat → Area} {p q : Vec} (hn : (n : Int) ≤ 128) (hF : ∀ i, i < n → (F i).ok = true) (hp : p.In) (hq : q.In) (hs : shortB p q = true) : crossR n F p q = 0 ∧ ∀ j, crossE j n F p q = filtL (fun i => crossG j (F i) p q) n := by
  have hb : badB n F 2 (twoV p q) = false := badB_of hn hF fun i _ => by cases i <;> assumption
  have e : crossR n F p q = 0 := by unfold crossR; rw [hb, hs]
  refine ⟨e, fun j => ?_⟩
  unfold crossE
  rw [e]
  rfl
theorem filtL_congr {g h : Nat → Bool} : ∀ {n : Nat}, (∀ i, i < n → g i = h i) → filtL g n = filtL h n
  | 0, _ => rfl
  | n + 1, k => by
    simp only [filtL, k n (by omega)]
    rw [filtL_congr fun i hi => k i (by omega)]
theorem sameF_refl (f : Fam) : sameF f f = true := by
  unfold sameF
  rw [decide_eq_false (by omega)]
  exact eqN_iff.2 fun _ _ _ => rfl
/-- The three lists, turned round. -/
theorem cross_rev {n : Nat} {F : Nat → Area} {p q : Vec} : filtL (fun i => crossG 0 (F i) p q) n = filtL (fun i => crossG 1 (F i) q p) n ∧ filtL (fun i => crossG 1 (F i) p q) n = filtL (fun i => crossG 0 (F i) q p) n ∧ filtL (fun i => crossG 2 (F i) p q) n = filtL (fun i => crossG 2 (F i) q p) n := by
  refine ⟨rfl, rfl, filtL_congr fun i _ => ?_⟩
  simp only [crossG]
  rw [entA_rev]
  cases entA (F i) q p <;> cases hasA (F i) p <;> cases hasA (F i) q <;> rfl
theorem Near.short' {p v : Vec} (h : Near p v) {n : Int} (hn : 0 ≤ n ∧ n ≤ 100) : shortB (goV p v n) p = true := by
  obtain ⟨-, -, h1, h2⟩ := h.go hn
  have e1 := goV_x p v n
  have e2 := goV_y p v n
  unfold shortB
  exact decide_eq_true (by omega)
end Go.Proofs.Ytcbpajkgmpibgaa
