/- Hits: the walk. Areas: Valid, bad, has, the closures of Inside and Crossed. -/
import Derived.Test.YtcojfohjdibjjaaGreatDoorQ5
namespace Go.Proofs.YtcojfohjdibjjaaGreatDoor
open Go.RowKit

set_option maxHeartbeats 20000000 in
set_option maxRecDepth 8000 in
theorem hits_ev (I : Inl) (n : Nat) (F : Nat → Body) (p q : Vec) (hI : p.In → q.In → shortB p q = true → (∀ i, i < n → (F i).ok = true) → (idsK F p q n).length ≤ 20 → SortI F p q n I) (hn : hitsErr n F p q = 0 → (idsK F p q n).length ≤ 20) (hn1 : (n : Int) ≤ 1000000) :
    evC gH I inH ⟨[], [], [2, 14], 0⟩ Tryz.f15 (((rds3 rdBodies rdVec rdVec)).enc ((n, F), p, q)) [] 0 fun v H _ => resOutF (.tup [.rs 1 (hitsE n F p q).length (cellsI (hitsE n F p q)), .v (.int .i64 (hitsErr n F p q))]) H v := by
  refine Exists.intro (hitCut1 n F p q) ?_
  refine And.intro ?_ ?_
  · refine ⟨(1 : Nat), [], [], trivial, ⟨Nat.le_refl 1, (by omega : 1 ≤ max n 1), rfl⟩, ?_⟩
    repeat' (first | (refine And.intro ?_ ?_) | (intro _) | exact rfl)
  refine fun (k : Nat) (hk : 1 ≤ k ∧ k ≤ max n 1 ∧ unsN F 1 (n - 1) = unsN F k (n - k)) => ?_
  obtain ⟨k0, k1, k2⟩ := hk
  refine And.intro (fun hb => ?_) (fun hb => ?_)
  · have hb : (k : Int) < n := of_decide_eq_true hb
    have e := unsN_step (F := F) (k := k) (n := n) (by omega)
    refine And.intro (⟨by omega, by omega⟩ : 0 ≤ (k : Int) ∧ (k : Int) < n) ?_
    refine And.intro (by unfold I64; omega : I64 ((k : Int) - 1)) ?_
    refine And.intro (⟨by omega, by omega⟩ : 0 ≤ (k : Int) - 1 ∧ (k : Int) - 1 < n) ?_
    have ek : ((k : Int) - 1).toNat = k - 1 := by omega
    refine And.intro (fun hc => ?_) (fun hc => ?_)
    · have hc : decide ((F k).iD ≤ (F ((k : Int) - 1).toNat).iD) = true := hc
      rw [ek] at hc
      rw [hc] at e
      have he : hitsErr n F p q = 2 := by unfold hitsErr; rw [k2, e]
      have hl : hitsE n F p q = [] := by unfold hitsE; rw [he]; rfl
      simp only [he, hl]
      repeat' (first | (refine And.intro ?_ ?_) | (intro _) | exact rfl)
    · have hc : decide ((F k).iD ≤ (F ((k : Int) - 1).toNat).iD) = false := hc
      rw [ek] at hc
      rw [hc] at e
      refine And.intro (by unfold I64; omega : I64 ((k : Int) + 1)) ?_
      refine ⟨k + 1, [], [], (by show n - (k + 1) < n - k; omega), ⟨(by omega : 1 ≤ k + 1), (by omega : k + 1 ≤ max n 1), k2.trans e⟩, ?_⟩
      repeat' (first | (refine And.intro ?_ ?_) | (intro _) | exact rfl)
  have hb : ¬ (k : Int) < n := of_decide_eq_false hb
  have hu : unsN F 1 (n - 1) = false := by rw [k2, show n - k = 0 by omega]; rfl
  refine And.intro (fun hc => ?_) (fun hc => ?_)
  · have hc : decide (64 < (n : Int)) = true := hc
    have he : hitsErr n F p q = 2 := by unfold hitsErr; rw [hu, hc]
    have hl : hitsE n F p q = [] := by unfold hitsE; rw [he]; rfl
    simp only [he, hl]
    repeat' (first | (refine And.intro ?_ ?_) | (intro _) | exact rfl)
  have hc : decide (64 < (n : Int)) = false := hc
  have h64 : (n : Int) ≤ 64 := by have := of_decide_eq_false hc; omega
  refine And.intro ⟨fun _ _ => trivial, (by omega : (n : Int) ≤ 1000000)⟩ ?_
  refine And.intro (fun hd => ?_) (fun hd => ?_)
  · have hd : decide (¬ wrongE p q n F = 0) = true := hd
    have he : hitsErr n F p q = wrongE p q n F := by unfold hitsErr; rw [hu, hc]
    have hl : hitsE n F p q = [] := by unfold hitsE; rw [he, hd]
    simp only [he, hl]
    repeat' (first | (refine And.intro ?_ ?_) | (intro _) | exact rfl)
  have hd : decide (¬ wrongE p q n F = 0) = false := hd
  have hw : wrongE p q n F = 0 := by simpa using hd
  obtain ⟨ip, iq, hok, hs⟩ := wrongE_ok hw
  have he : hitsErr n F p q = 0 := by unfold hitsErr; rw [hu, hc, hw]
  have hl : hitsE n F p q = hitsL n F p q := by unfold hitsE; rw [he]; rfl
  simp only [he, hl]
  refine Exists.intro (hitCut2 n F p q) ?_
  refine And.intro ?_ ?_
  · refine ⟨(0 : Nat), [], [.slot2 11 1 3], trivial, Nat.zero_le _, ?_⟩
    repeat' (first | (refine And.intro ?_ ?_) | (intro _) | exact rfl)
    all_goals exact absurd ‹_ < 0› (Nat.not_lt_zero _)
  refine fun (k : Nat) (hk : k ≤ n) => ?_
  refine And.intro (fun hb => ?_) (fun hb => ?_)
  · have hb : (k : Int) < n := of_decide_eq_true hb
    refine And.intro (⟨by omega, by omega⟩ : 0 ≤ (k : Int) ∧ (k : Int) < n) ?_
    refine And.intro ⟨hok k (by omega), ip, iq, hs⟩ ?_
    refine And.intro (fun hm => ?_) (fun hm => ?_)
    · have hm : metB F p q k = true := hm
      have hlen := idsK_len (F := F) (p := p) (q := q) k
      have hfit : fitO ((idsK F p q k).length + 1) 8 := ⟨Nat.le_trans (by omega : (idsK F p q k).length + 1 ≤ 1000) (by decide), by omega⟩
      refine And.intro (fun j => ⟨rfl, rfl, rfl, trivial⟩) ?_
      refine And.intro ⟨hfit, fun _ _ _ => ⟨rfl, trivial⟩⟩ ?_
      refine And.intro (by unfold I64; omega : I64 ((k : Int) + 1)) ?_
      refine ⟨k + 1, [(5, 9)], [], (by show n - (k + 1) < n - k; omega), (by omega : k + 1 ≤ n), ?_⟩
      repeat' (first | (refine And.intro ?_ ?_) | (intro _) | exact rfl)
      all_goals first | exact idsK_yes_len hm | exact hasK_yes hm _ | exact plK_n hm _ | exact plK_s hm _ | exact plK_m hm _ | exact idsK_yes_get hm ‹_›
    · have hm : metB F p q k = false := hm
      refine And.intro (by unfold I64; omega : I64 ((k : Int) + 1)) ?_
      refine ⟨k + 1, [], [], (by show n - (k + 1) < n - k; omega), (by omega : k + 1 ≤ n), ?_⟩
      repeat' (first | (refine And.intro ?_ ?_) | (intro _) | exact rfl)
      all_goals first | exact congrArg List.length (idsK_nay hm) | exact hasK_nay hm _ | exact congrArg Plc.n (plK_nay hm _) | exact congrArg Plc.s (plK_nay hm _) | exact congrArg Plc.m (plK_nay hm _) | exact congrArg (fun l => List.getD l _ 0) (idsK_nay hm)
  have hb : ¬ (k : Int) < n := of_decide_eq_false hb
  obtain rfl : k = n := by omega
  have hlen := idsK_len (F := F) (p := p) (q := q) k
  refine hI ip iq hs hok (hn he) _ ?_
  refine And.intro (fun _ _ => rfl) ?_
  refine And.intro (sortL_len _) ?_
  refine And.intro (fun i _ => (congrArg (fun m => (hitsL k F p q).getD m 0) (Nat.zero_add i).symm)) rfl
/-- Hits: of IDs in order; at most 20 of the bodies are met. -/
noncomputable def conHits : Con cx := walkConF 15 Tryz.call15 (rds3 rdBodies rdVec rdVec) (fun a => [(a.1.1 : Int) ≤ 1000000, hitsErr a.1.1 a.1.2 a.2.1 a.2.2 = 0 → (idsK a.1.2 a.2.1 a.2.2 a.1.1).length ≤ 20]) (fun a => .tup [.rs 1 (hitsE a.1.1 a.1.2 a.2.1 a.2.2).length (cellsI (hitsE a.1.1 a.1.2 a.2.1 a.2.2)), .v (.int .i64 (hitsErr a.1.1 a.1.2 a.2.1 a.2.2))]) (fun _ => ⟨[], [], [2, 14], 0⟩) [] (fun _ => rfl) follows Tryz.func15 (by kernel_rfl)
  fun ⟨⟨n, F⟩, p, q⟩ ⟨h1, h2⟩ => hits_ev (inlD gH fsH 4) n F p q (fun ip iq hs hok hl => sort_inl ip iq hs hok hl) h2 h1
end Go.Proofs.YtcojfohjdibjjaaGreatDoor
namespace Go.Proofs.YtcojfohjdibjjaaGreatDoor
open Go.RowKit

/-- A function out of a walk, its result in memory that is new. -/
abbrev rdAreas : Rd (Nat × (Nat → Area)) := ⟨.rs 4 0 fun _ => rdArea.pat.al, fun x => (x.rn, fun i => Area.of (.agg (x.rf i))), fun a => .rs 4 a.1 fun i => (a.2 i).cells, fun _ => rfl⟩
def rdVecs : Rd (Nat × (Nat → Vec)) := ⟨.rs 2 0 fun _ => rdVec.pat.al, fun x => (x.rn, fun i => Vec.of (.agg (x.rf i))), fun a => .rs 2 a.1 fun i => (a.2 i).cells, fun _ => rfl⟩
def spanB (a b : Int) : Bool := decide (-2097152 ≤ a) && decide (a ≤ b) && decide (b ≤ 2097152)
def Area.ok (a : Area) : Bool := spanB a.lowX a.highX && spanB a.lowY a.highY
def hasA (a : Area) (p : Vec) : Bool := decide (a.lowX ≤ p.x) && decide (p.x ≤ a.highX) && decide (a.lowY ≤ p.y) && decide (p.y ≤ a.highY)
def Area.low (a : Area) : Vec := ⟨a.lowX, a.lowY⟩
def Area.high (a : Area) : Vec := ⟨a.highX, a.highY⟩
def entA (a : Area) (p q : Vec) : Bool := (enterP a.low a.high p q).2
set_option maxHeartbeats 2000000 in
set_option maxRecDepth 8000 in
theorem Span_walk : ∀ a, conj ((fun _ => []) a) → evFn (C := cx) [] [] 0 noHow Tryz.f87 (((rds2 (rdI .i64) (rdI .i64))).enc a) fun v H _ => resOut ((fun a => .v (.bool (spanB a.1 a.2))) a) H v := by
  intro ⟨a, b⟩ _
  show (_ : Bool) = _
  rfl
noncomputable def conSpan : Con cx := walkCon 87 Tryz.call87 (rds2 (rdI .i64) (rdI .i64)) (fun _ => []) (fun a => .v (.bool (spanB a.1 a.2))) (fun _ => noHow) [] (fun _ => rfl) follows Tryz.func87 (by kernel_rfl) Span_walk
set_option maxHeartbeats 2000000 in
set_option maxRecDepth 8000 in
theorem AValid_walk : ∀ a, conj ((fun _ => []) a) → evFn (C := cx) [conSpan] [] 0 noHow Tryz.f62 (((rds1 rdArea)).enc a) fun v H _ => resOut ((fun a => .v (.bool a.ok)) a) H v := by
  intro a _
  show (_ : Bool) = _
  rfl
noncomputable def conAValid : Con cx := walkCon 62 Tryz.call62 (rds1 rdArea) (fun _ => []) (fun a => .v (.bool a.ok)) (fun _ => noHow) [] (fun _ => rfl) follows Tryz.func62 (by kernel_rfl) AValid_walk
set_option maxHeartbeats 2000000 in
set_option maxRecDepth 8000 in
theorem Bad1_walk : ∀ a, conj ((fun _ => []) a) → evFn (C := cx) [conAValid] [] 0 noHow Tryz.f61 (((rds1 rdArea)).enc a) fun v H _ => resOut ((fun a => .v (.bool (!a.ok))) a) H v := by
  intro a _
  exact rfl
noncomputable def conBad1 : Con cx := walkCon 61 Tryz.call61 (rds1 rdArea) (fun _ => []) (fun a => .v (.bool (!a.ok))) (fun _ => noHow) [] (fun _ => rfl) follows Tryz.func61 (by kernel_rfl) Bad1_walk
set_option maxHeartbeats 2000000 in
set_option maxRecDepth 8000 in
theorem Bad2_walk : ∀ a, conj ((fun _ => []) a) → evFn (C := cx) [conInside] [] 0 noHow Tryz.f64 (((rds1 rdVec)).enc a) fun v H _ => resOut ((fun a => .v (.bool (!a.inB))) a) H v := by
  intro a _
  exact rfl
noncomputable def conBad2 : Con cx := walkCon 64 Tryz.call64 (rds1 rdVec) (fun _ => []) (fun a => .v (.bool (!a.inB))) (fun _ => noHow) [] (fun _ => rfl) follows Tryz.func64 (by kernel_rfl) Bad2_walk
/-- Does g hold for one of r numbers from the k-th on? -/
def anyN (g : Nat → Bool) : Nat → Nat → Bool
  | _, 0 => false
  | k, r + 1 => match g k with | true => true | false => anyN g (k + 1) r
theorem anyN_step {g : Nat → Bool} {k n : Nat} (h : k < n) : anyN g k (n - k) = match g k with | true => true | false => anyN g (k + 1) (n - (k + 1)) := by
  rw [show n - k = (n - (k + 1)) + 1 by omega]; rfl
theorem anyN_no {g : Nat → Bool} : ∀ {r k : Nat}, anyN g k r = false → ∀ i, k ≤ i → i < k + r → g i = false
  | 0, k, _, i, h1, h2 => by omega
  | r + 1, k, h, i, h1, h2 => by
    simp only [anyN] at h
    split at h
    · cases h
    · rename_i hk
      rcases Nat.eq_or_lt_of_le h1 with rfl | h1
      · exact hk
      · exact anyN_no h i h1 (by omega)
theorem anyN_of {g : Nat → Bool} : ∀ {r k : Nat}, (∀ i, k ≤ i → i < k + r → g i = false) → anyN g k r = false
  | 0, k, _ => rfl
  | r + 1, k, h => by
    simp only [anyN, h k (Nat.le_refl _) (by omega)]
    exact anyN_of fun i h1 h2 => h i (by omega) (by omega)
noncomputable def inArC : FnI cx := ⟨60, Tryz.call60, Tryz.f60, Tryz.func60, [], [], [], 0, by kernel_rfl⟩
noncomputable def inArI : FnI cx := ⟨86, Tryz.call86, Tryz.f86, Tryz.func86, [], [], [2], 0, by kernel_rfl⟩
def idxAr (n : Nat) (F : Nat → Area) : Cut := ⟨Nat, fun k => k ≤ n ∧ anyN (fun i => !(F i).ok) 0 n = anyN (fun i => !(F i).ok) k (n - k),
  fun k => ⟨[sl 0 (.rs 4 n fun i => (F i).cells), sl 1 (.v (.func (.func 61) #[] #[])), sl 6 (.rs 4 n fun i => (F i).cells), sl 7 (.v (.int .i64 n)), sl 8 (.v (.int .i64 k))], [], 0, 0, [], []⟩, fun k => n - k⟩
set_option maxHeartbeats 2000000 in
set_option maxRecDepth 8000 in
theorem ConAr_walk : ∀ a, conj ((fun a => [(a.1.1 : Int) ≤ 1000000, a.2 = .v (.func (.func 61) #[] #[])]) a) → evFn (C := cx) [conBad1] [inArI] 1 noHow Tryz.f60 (((rds2 rdAreas rdX)).enc a) fun v H _ => resOut ((fun a => .v (.bool (anyN (fun i => !(a.1.2 i).ok) 0 a.1.1))) a) H v := by
  intro ⟨⟨n, F⟩, x⟩ ⟨hn, hx⟩
  replace hn : (n : Int) ≤ 1000000 := hn
  replace hx : x = .v (.func (.func 61) #[] #[]) := hx
  subst hx
  refine Exists.intro (idxAr n F) ?_
  refine And.intro ?_ ?_
  · refine ⟨(0 : Nat), [], [], trivial, ⟨Nat.zero_le _, rfl⟩, ?_⟩
    repeat' (first | (refine And.intro ?_ ?_) | (intro _) | exact rfl)
  refine fun (k : Nat) (hk : k ≤ n ∧ anyN (fun i => !(F i).ok) 0 n = anyN (fun i => !(F i).ok) k (n - k)) => ?_
  obtain ⟨k1, k2⟩ := hk
  refine And.intro (fun hb => ?_) (fun hb => ?_)
  · have hb : (k : Int) < n := of_decide_eq_true hb
    have e := anyN_step (g := fun i => !(F i).ok) (k := k) (n := n) (by omega)
    refine And.intro ⟨by omega, by omega⟩ ?_
    refine And.intro (fun hc => ?_) (fun hc => ?_)
    · have hc : (!(F k).ok) = true := hc
      simp only [hc] at e
      refine Eq.trans (a := anyN (fun i => !(F i).ok) 0 n) (b := decide (0 ≤ (k : Int))) ?_ rfl
      rw [k2, e, decide_eq_true (by omega)]
    · have hc : (!(F k).ok) = false := hc
      simp only [hc] at e
      refine And.intro (by unfold I64; omega : I64 ((k : Int) + 1)) ?_
      refine ⟨k + 1, [], [], (by show n - (k + 1) < n - k; omega), ⟨by omega, by rw [k2, e]⟩, ?_⟩
      repeat' (first | (refine And.intro ?_ ?_) | (intro _) | exact rfl)
  · have hb : ¬ (k : Int) < n := of_decide_eq_false hb
    have e : anyN (fun i => !(F i).ok) 0 n = false := by rw [k2, show n - k = 0 by omega]; rfl
    exact e
noncomputable def conConAr : Con cx := walkCon 60 Tryz.call60 (rds2 rdAreas rdX) (fun a => [(a.1.1 : Int) ≤ 1000000, a.2 = .v (.func (.func 61) #[] #[])]) (fun a => .v (.bool (anyN (fun i => !(a.1.2 i).ok) 0 a.1.1))) (fun _ => noHow) [] (fun _ => rfl) follows Tryz.func60 (by kernel_rfl) ConAr_walk
noncomputable def inVeC : FnI cx := ⟨63, Tryz.call63, Tryz.f63, Tryz.func63, [], [], [], 0, by kernel_rfl⟩
noncomputable def inVeI : FnI cx := ⟨88, Tryz.call88, Tryz.f88, Tryz.func88, [], [], [2], 0, by kernel_rfl⟩
def idxVe (n : Nat) (F : Nat → Vec) : Cut := ⟨Nat, fun k => k ≤ n ∧ anyN (fun i => !(F i).inB) 0 n = anyN (fun i => !(F i).inB) k (n - k),
  fun k => ⟨[sl 0 (.rs 2 n fun i => (F i).cells), sl 1 (.v (.func (.func 64) #[] #[])), sl 6 (.rs 2 n fun i => (F i).cells), sl 7 (.v (.int .i64 n)), sl 8 (.v (.int .i64 k))], [], 0, 0, [], []⟩, fun k => n - k⟩
set_option maxHeartbeats 2000000 in
set_option maxRecDepth 8000 in
theorem ConVe_walk : ∀ a, conj ((fun a => [(a.1.1 : Int) ≤ 1000000, a.2 = .v (.func (.func 64) #[] #[])]) a) → evFn (C := cx) [conBad2] [inVeI] 1 noHow Tryz.f63 (((rds2 rdVecs rdX)).enc a) fun v H _ => resOut ((fun a => .v (.bool (anyN (fun i => !(a.1.2 i).inB) 0 a.1.1))) a) H v := by
  intro ⟨⟨n, F⟩, x⟩ ⟨hn, hx⟩
  replace hn : (n : Int) ≤ 1000000 := hn
  replace hx : x = .v (.func (.func 64) #[] #[]) := hx
  subst hx
  refine Exists.intro (idxVe n F) ?_
  refine And.intro ?_ ?_
  · refine ⟨(0 : Nat), [], [], trivial, ⟨Nat.zero_le _, rfl⟩, ?_⟩
    repeat' (first | (refine And.intro ?_ ?_) | (intro _) | exact rfl)
  refine fun (k : Nat) (hk : k ≤ n ∧ anyN (fun i => !(F i).inB) 0 n = anyN (fun i => !(F i).inB) k (n - k)) => ?_
  obtain ⟨k1, k2⟩ := hk
  refine And.intro (fun hb => ?_) (fun hb => ?_)
  · have hb : (k : Int) < n := of_decide_eq_true hb
    have e := anyN_step (g := fun i => !(F i).inB) (k := k) (n := n) (by omega)
    refine And.intro ⟨by omega, by omega⟩ ?_
    refine And.intro (fun hc => ?_) (fun hc => ?_)
    · have hc : (!(F k).inB) = true := hc
      simp only [hc] at e
      refine Eq.trans (a := anyN (fun i => !(F i).inB) 0 n) (b := decide (0 ≤ (k : Int))) ?_ rfl
      rw [k2, e, decide_eq_true (by omega)]
    · have hc : (!(F k).inB) = false := hc
      simp only [hc] at e
      refine And.intro (by unfold I64; omega : I64 ((k : Int) + 1)) ?_
      refine ⟨k + 1, [], [], (by show n - (k + 1) < n - k; omega), ⟨by omega, by rw [k2, e]⟩, ?_⟩
      repeat' (first | (refine And.intro ?_ ?_) | (intro _) | exact rfl)
  · have hb : ¬ (k : Int) < n := of_decide_eq_false hb
    have e : anyN (fun i => !(F i).inB) 0 n = false := by rw [k2, show n - k = 0 by omega]; rfl
    exact e
noncomputable def conConVe : Con cx := walkCon 63 Tryz.call63 (rds2 rdVecs rdX) (fun a => [(a.1.1 : Int) ≤ 1000000, a.2 = .v (.func (.func 64) #[] #[])]) (fun a => .v (.bool (anyN (fun i => !(a.1.2 i).inB) 0 a.1.1))) (fun _ => noHow) [] (fun _ => rfl) follows Tryz.func63 (by kernel_rfl) ConVe_walk
def badB (n : Nat) (F : Nat → Area) (m : Nat) (G : Nat → Vec) : Bool := decide (128 < (n : Int)) || anyN (fun i => !(F i).ok) 0 n || anyN (fun i => !(G i).inB) 0 m
set_option maxHeartbeats 2000000 in
set_option maxRecDepth 8000 in
theorem Bad_walk : ∀ a, conj ((fun a => [(a.2.1 : Int) ≤ 1000]) a) → evFn (C := cx) [conConAr, conConVe] [] 0 noHow Tryz.f33 (((rds2 rdAreas rdVecs)).enc a) fun v H _ => resOut ((fun a => .v (.bool (badB a.1.1 a.1.2 a.2.1 a.2.2))) a) H v := by
  intro ⟨⟨n, F⟩, m, G⟩ hm
  replace hm : (m : Int) ≤ 1000 := hm
  refine And.intro (fun hc => ?_) ?_
  · have hc : decide ((128 : Int) < n) = false := hc
    have hc := of_decide_eq_false hc
    exact ⟨fun _ _ => trivial, (by omega : (n : Int) ≤ 1000000), rfl⟩
  refine And.intro (fun hc => ⟨fun _ _ => trivial, (by omega : (m : Int) ≤ 1000000), rfl⟩) ?_
  refine Eq.trans (a := badB n F m G) ?_ rfl
  unfold badB
  cases decide (128 < (n : Int)) <;> rfl
noncomputable def conBad : Con cx := walkCon 33 Tryz.call33 (rds2 rdAreas rdVecs) (fun a => [(a.2.1 : Int) ≤ 1000]) (fun a => .v (.bool (badB a.1.1 a.1.2 a.2.1 a.2.2))) (fun _ => noHow) [] (fun _ => rfl) follows Tryz.func33 (by kernel_rfl) Bad_walk
set_option maxHeartbeats 2000000 in
set_option maxRecDepth 8000 in
theorem HasA_walk : ∀ a, conj ((fun _ => []) a) → evFn (C := cx) [] [] 0 noHow Tryz.f37 (((rds2 rdArea rdVec)).enc a) fun v H _ => resOut ((fun a => .v (.bool (hasA a.1 a.2))) a) H v := by
  intro ⟨a, p⟩ _
  show (_ : Bool) = _
  rfl
noncomputable def conHasA : Con cx := walkCon 37 Tryz.call37 (rds2 rdArea rdVec) (fun _ => []) (fun a => .v (.bool (hasA a.1 a.2))) (fun _ => noHow) [] (fun _ => rfl) follows Tryz.func37 (by kernel_rfl) HasA_walk
/-- A point that is pointed to. -/
def rpV : SV → Vec
  | .rp l _ => Vec.of (.agg l)
  | _ => ⟨0, 0⟩
def IsRp (x : SV) : Prop := ∃ v : Vec, x = .rp v.cells 0
set_option maxHeartbeats 2000000 in
set_option maxRecDepth 8000 in
theorem Cr1_walk : ∀ a, conj ((fun a => [IsRp a.2.1, IsRp a.2.2]) a) → evFn (C := cx) [conHasA] [] 0 noHow Tryz.f36 (((rds3 rdArea rdX rdX)).enc a) fun v H _ => resOut ((fun a => .v (.bool (hasA a.1 (rpV a.2.1) && !hasA a.1 (rpV a.2.2)))) a) H v := by
  intro ⟨a, x, y⟩ ⟨hx, hy⟩
  obtain ⟨p, rfl⟩ : IsRp x := hx
  obtain ⟨q, rfl⟩ : IsRp y := hy
  exact rfl
noncomputable def conCr1 : Con cx := walkCon 36 Tryz.call36 (rds3 rdArea rdX rdX) (fun a => [IsRp a.2.1, IsRp a.2.2]) (fun a => .v (.bool (hasA a.1 (rpV a.2.1) && !hasA a.1 (rpV a.2.2)))) (fun _ => noHow) [] (fun _ => rfl) follows Tryz.func36 (by kernel_rfl) Cr1_walk
set_option maxHeartbeats 2000000 in
set_option maxRecDepth 8000 in
theorem Cr2_walk : ∀ a, conj ((fun a => [IsRp a.2.1, IsRp a.2.2]) a) → evFn (C := cx) [conHasA] [] 0 noHow Tryz.f38 (((rds3 rdArea rdX rdX)).enc a) fun v H _ => resOut ((fun a => .v (.bool (hasA a.1 (rpV a.2.1) && !hasA a.1 (rpV a.2.2)))) a) H v := by
  intro ⟨a, x, y⟩ ⟨hx, hy⟩
  obtain ⟨p, rfl⟩ : IsRp x := hx
  obtain ⟨q, rfl⟩ : IsRp y := hy
  exact rfl
noncomputable def conCr2 : Con cx := walkCon 38 Tryz.call38 (rds3 rdArea rdX rdX) (fun a => [IsRp a.2.1, IsRp a.2.2]) (fun a => .v (.bool (hasA a.1 (rpV a.2.1) && !hasA a.1 (rpV a.2.2)))) (fun _ => noHow) [] (fun _ => rfl) follows Tryz.func38 (by kernel_rfl) Cr2_walk
def EntPre (a : Area) (p q : Vec) : Prop := a.low.In ∧ a.high.In ∧ p.In ∧ q.In
set_option maxHeartbeats 2000000 in
set_option maxRecDepth 8000 in
theorem Cr3_walk : ∀ a, conj ((fun a => [IsRp a.2.1, IsRp a.2.2, EntPre a.1 (rpV a.2.1) (rpV a.2.2)]) a) → evFn (C := cx) [conHasA, conEnter] [] 0 noHow Tryz.f39 (((rds3 rdArea rdX rdX)).enc a) fun v H _ => resOut ((fun a => .v (.bool (entA a.1 (rpV a.2.1) (rpV a.2.2) && !hasA a.1 (rpV a.2.1) && !hasA a.1 (rpV a.2.2)))) a) H v := by
  intro ⟨a, x, y⟩ ⟨hx, hy, hp⟩
  obtain ⟨p, rfl⟩ : IsRp x := hx
  obtain ⟨q, rfl⟩ : IsRp y := hy
  refine And.intro hp ?_
  exact rfl
noncomputable def conCr3 : Con cx := walkCon 39 Tryz.call39 (rds3 rdArea rdX rdX) (fun a => [IsRp a.2.1, IsRp a.2.2, EntPre a.1 (rpV a.2.1) (rpV a.2.2)]) (fun a => .v (.bool (entA a.1 (rpV a.2.1) (rpV a.2.2) && !hasA a.1 (rpV a.2.1) && !hasA a.1 (rpV a.2.2)))) (fun _ => noHow) [] (fun _ => rfl) follows Tryz.func39 (by kernel_rfl) Cr3_walk
end Go.Proofs.YtcojfohjdibjjaaGreatDoor
