/- interp: histories, Valid, Shown. The law's helpers: few, Few, Same, comp, scene, shot; rewind: within, fits. rewind.others: the bodies that do not belong to a client, one after the other. -/
import Derived.Test.YtjdohgcolhpegaaGreatDoorN1
import Derived.Test.YtjdohgcolhpegaaGreatDoorG23
namespace Go.Proofs.YtjdohgcolhpegaaGreatDoor
open Go.RowKit

/-- A list of worlds. -/
structure Wrs where
  n : Nat
  w : Nat → Wor
def Wrs.sv (l : Wrs) : SV := .rs 2 l.n fun i => (l.w i).cells
def patW : List SV := [.v (.int .i64 0), .rs 2 0 fun _ => patE]
def rdWrs : Rd Wrs := ⟨.rs 2 0 fun _ => patW, fun x => ⟨x.rn, fun i => Wor.of (.agg (x.rf i))⟩, Wrs.sv, fun _ => rfl⟩
def Wrs.Sm (l : Wrs) : Prop := (l.n : Int) ≤ bigN ∧ ∀ i, i < l.n → (l.w i).l.Sm
def badH (h : Wrs) (i : Nat) : Bool := !(h.w i).valid || (decide ((i : Int) > 0) && decide ((h.w (i - 1)).tick ≥ (h.w i).tick))
def histB (h : Wrs) : Bool := !anyN (badH h) 0 h.n && decide ((h.n : Int) ≤ 40)
def hvC (h : Wrs) : Cut := ⟨Nat, fun k => k ≤ h.n ∧ anyN (badH h) 0 h.n = anyN (badH h) k (h.n - k),
  fun k => ⟨[sl 0 h.sv, sl 5 h.sv, sl 6 (i64 h.n), sl 7 (i64 k)], [], 0, 0, [], []⟩, fun k => h.n - k⟩
set_option maxHeartbeats 2000000 in
set_option maxRecDepth 8000 in
theorem HValid_walk : ∀ a, conj ((fun a => [a.Sm]) a) → evFn (C := cx) [conWValid] [] 0 ⟨[], [], [2], 0⟩ Tryz.f27 ((rds1 rdWrs).enc a) fun v H _ => resOut ((fun a => .v (.bool (histB a))) a) H v := by
  intro h hm
  replace hm : h.Sm := hm
  have hbg : (h.n : Int) ≤ 9223372036854775807 := hm.1
  refine Exists.intro (hvC h) ?_
  refine And.intro ?_ ?_
  · refine ⟨(0 : Nat), [], [], trivial, ⟨Nat.zero_le _, rfl⟩, ?_⟩
    repeat' (first | (refine And.intro ?_ ?_) | (intro _) | exact rfl)
  refine fun (k : Nat) (hk : k ≤ h.n ∧ anyN (badH h) 0 h.n = anyN (badH h) k (h.n - k)) => ?_
  obtain ⟨k1, k2⟩ := hk
  refine And.intro (fun hb => ?_) (fun hb => ?_)
  · have hb : (k : Int) < h.n := of_decide_eq_true hb
    have e := anyN_step (g := badH h) (k := k) (n := h.n) (by omega)
    refine And.intro ⟨by omega, by omega⟩ ?_
    refine And.intro ⟨fun _ _ _ _ => trivial, hm.2 k (by omega)⟩ ?_
    have et : ((k : Int) - 1).toNat = k - 1 := by omega
    have o1 : decide (0 < (k : Int)) = true → I64 ((k : Int) - 1) := fun g => by have := of_decide_eq_true g; unfold I64; omega
    have o2 : decide (0 < (k : Int)) = true → 0 ≤ (k : Int) - 1 ∧ (k : Int) - 1 < h.n := fun g => by have := of_decide_eq_true g; omega
    refine And.intro (fun g _ => o1 g) ?_
    refine And.intro (fun g _ => o2 g) ?_
    refine And.intro (fun hc => ?_) (fun hc => ?_)
    · have hc : (!(h.w k).valid || (decide ((k : Int) > 0) && decide ((h.w ((k : Int) - 1).toNat).tick ≥ (h.w k).tick))) = true := hc
      rw [et] at hc
      have hc : badH h k = true := hc
      simp only [hc] at e
      have e2 : histB h = false := by unfold histB; rw [k2, e]; rfl
      simp only [e2]
      exact rfl
    · have hc : (!(h.w k).valid || (decide ((k : Int) > 0) && decide ((h.w ((k : Int) - 1).toNat).tick ≥ (h.w k).tick))) = false := hc
      rw [et] at hc
      have hc : badH h k = false := hc
      simp only [hc] at e
      refine And.intro (by unfold I64; omega : I64 ((k : Int) + 1)) ?_
      refine ⟨k + 1, [], [], (by show h.n - (k + 1) < h.n - k; omega), ⟨by omega, by rw [k2, e]⟩, ?_⟩
      repeat' (first | (refine And.intro ?_ ?_) | (intro _) | exact rfl)
  · have hb : ¬ (k : Int) < h.n := of_decide_eq_false hb
    have e : anyN (badH h) 0 h.n = false := by rw [k2, show h.n - k = 0 by omega]; rfl
    have e2 : histB h = decide ((h.n : Int) ≤ 40) := by unfold histB; rw [e]; rfl
    simp only [e2]
    exact rfl
noncomputable def conHValid : Con cx := walkCon 27 Tryz.call27 (rds1 rdWrs) (fun a => [a.Sm]) (fun a => .v (.bool (histB a))) (fun _ => ⟨[], [], [2], 0⟩) [] (fun _ => rfl) follows Tryz.func27 (by kernel_rfl) HValid_walk
set_option maxHeartbeats 2000000 in
set_option maxRecDepth 8000 in
theorem Shw1_walk : ∀ a, conj ((fun a => [0 ≤ a.1.tick ∧ a.1.tick ≤ 1073741824, 0 ≤ a.2 ∧ a.2 ≤ 34359738368]) a) → evFn (C := cx) [] [] 0 noHow Tryz.f55 ((rds2 rdWor (rdI .i64)).enc a) fun v H _ => resOut ((fun a => .v (.int .i64 (16 * a.1.tick - a.2))) a) H v := by
  intro ⟨w, t⟩ ⟨h1, h2⟩
  replace h1 : 0 ≤ w.tick ∧ w.tick ≤ 1073741824 := h1
  replace h2 : 0 ≤ t ∧ t ≤ 34359738368 := h2
  refine And.intro (by unfold I64; omega : I64 (16 * w.tick)) ?_
  refine And.intro (by unfold I64; omega : I64 (16 * w.tick - t)) ?_
  exact rfl
noncomputable def conShw1 : Con cx := walkCon 55 Tryz.call55 (rds2 rdWor (rdI .i64)) (fun a => [0 ≤ a.1.tick ∧ a.1.tick ≤ 1073741824, 0 ≤ a.2 ∧ a.2 ≤ 34359738368]) (fun a => .v (.int .i64 (16 * a.1.tick - a.2))) (fun _ => noHow) [] (fun _ => rfl) follows Tryz.func55 (by kernel_rfl) Shw1_walk
def bsW (l : Wrs) (q : Int) : Cut := ⟨Nat × Nat, fun x => x.1 ≤ x.2 ∧ x.2 ≤ l.n ∧ (∀ t, t < x.1 → (fun i => 16 * (l.w i).tick) t < q) ∧ (∀ t, x.2 ≤ t → t < l.n → q ≤ (fun i => 16 * (l.w i).tick) t),
  fun x => ⟨[sl 0 l.sv, sl 1 (.v (.int .i64 q)), sl 2 (.v (.func (.func 55) #[] #[])), sl 8 (i64 l.n), sl 9 (i64 x.1), sl 10 (i64 x.2)], [], 0, 0, [], []⟩, fun x => x.2 - x.1⟩
set_option maxHeartbeats 2000000 in
set_option maxRecDepth 8000 in
theorem BsW_walk : ∀ a, conj ((fun a => [(a.1.n : Int) ≤ halfN, Inc (fun i => 16 * (a.1.w i).tick) a.1.n, ∀ i, i < a.1.n → 0 ≤ (a.1.w i).tick ∧ (a.1.w i).tick ≤ 1073741824, 0 ≤ a.2.1 ∧ a.2.1 ≤ 34359738368, a.2.2 = (.v (.func (.func 55) #[] #[]))]) a) → evFn (C := cx) [conShw1] [] 0 ⟨[], [], [3], 0⟩ Tryz.f54 ((rds3 rdWrs (rdI .i64) rdX).enc a) fun v H _ => resOut ((fun a => .tup [i64 (lowB (fun i => 16 * (a.1.w i).tick) a.1.n a.2.1), .v (.bool (hitB (fun i => 16 * (a.1.w i).tick) a.1.n a.2.1))]) a) H v := by
  intro ⟨l, q, x⟩ ⟨hn, hs, ht, hq, hx⟩
  replace hx : x = (.v (.func (.func 55) #[] #[])) := hx
  replace hn : (l.n : Int) ≤ 4611686018427387903 := hn
  replace hs : Inc (fun i => 16 * (l.w i).tick) l.n := hs
  replace ht : ∀ i, i < l.n → 0 ≤ (l.w i).tick ∧ (l.w i).tick ≤ 1073741824 := ht
  replace hq : 0 ≤ q ∧ q ≤ 34359738368 := hq
  subst hx
  refine Exists.intro (bsW l q) ?_
  refine And.intro ?_ ?_
  · refine ⟨((0 : Nat), l.n), [], [], trivial, ⟨Nat.zero_le _, Nat.le_refl _, fun t h => absurd h (Nat.not_lt_zero _), fun t h1 h2 => absurd h2 (Nat.not_lt.2 h1)⟩, ?_⟩
    repeat' (first | (refine And.intro ?_ ?_) | (intro _) | exact rfl)
  refine fun (x : Nat × Nat) (hx : x.1 ≤ x.2 ∧ x.2 ≤ l.n ∧ (∀ t, t < x.1 → (fun i => 16 * (l.w i).tick) t < q) ∧ (∀ t, x.2 ≤ t → t < l.n → q ≤ (fun i => 16 * (l.w i).tick) t)) => ?_
  obtain ⟨i, j⟩ := x
  obtain ⟨x1, x2, x3, x4⟩ : i ≤ j ∧ j ≤ l.n ∧ (∀ t, t < i → (fun i => 16 * (l.w i).tick) t < q) ∧ (∀ t, j ≤ t → t < l.n → q ≤ (fun i => 16 * (l.w i).tick) t) := hx
  refine And.intro (fun hb => ?_) (fun hb => ?_)
  · have hb : (i : Int) < j := of_decide_eq_true hb
    refine And.intro (by unfold I64; omega : I64 ((i : Int) + j)) ?_
    have hh := half i j (by omega)
    obtain ⟨h, hd⟩ : ∃ h, h = (i + j) / 2 := ⟨_, rfl⟩
    rw [← hd] at hh
    refine And.intro (show 0 ≤ _ ∧ _ < ((l.n : Nat) : Int) by rw [hh]; omega) ?_
    refine And.intro ⟨fun _ _ _ _ => trivial, (show 0 ≤ (l.w (IntKind.i64.wrap ((IntKind.u64.wrap ((i : Int) + j)).fdiv (2 ^ min (Int.toNat 1) IntKind.u64.bits))).toNat).tick ∧ _ ≤ _ by rw [hh]; exact ht h (by omega)), hq⟩ ?_
    refine And.intro (fun hc => ?_) (fun hc => ?_)
    · have hc : decide ((fun i => 16 * (l.w i).tick) (IntKind.i64.wrap ((IntKind.u64.wrap ((i : Int) + j)).fdiv (2 ^ min (Int.toNat 1) IntKind.u64.bits))).toNat - q < 0) = true := hc
      rw [hh] at hc
      have hc : (fun i => 16 * (l.w i).tick) h < q := by have := of_decide_eq_true hc; simp only [Int.toNat_natCast] at this ⊢; omega
      have h64 : I64 ((h : Int) + 1) := by unfold I64; omega
      refine And.intro (show I64 (_ + 1) by rw [hh]; exact h64) ?_
      refine ⟨(h + 1, j), [], [], (by show j - (h + 1) < j - i; omega), ⟨(by omega : h + 1 ≤ j), x2, fun t ht => ?_, x4⟩, ?_⟩
      · rcases Nat.eq_or_lt_of_le (Nat.le_of_lt_succ ht) with rfl | ht
        · exact hc
        · exact Int.lt_trans (hs t h ht (by omega)) hc
      repeat' (first | (refine And.intro ?_ ?_) | (intro _) | exact rfl)
      all_goals (show ((h + 1 : Nat) : Int) = _ + 1; rw [hh]; rfl)
    · have hc : decide ((fun i => 16 * (l.w i).tick) (IntKind.i64.wrap ((IntKind.u64.wrap ((i : Int) + j)).fdiv (2 ^ min (Int.toNat 1) IntKind.u64.bits))).toNat - q < 0) = false := hc
      rw [hh] at hc
      have hc : q ≤ (fun i => 16 * (l.w i).tick) h := by have := of_decide_eq_false hc; simp only [Int.toNat_natCast] at this ⊢; omega
      refine ⟨(i, h), [], [], (by show h - i < j - i; omega), ⟨(by omega : i ≤ h), (by omega : h ≤ l.n), x3, fun t h1 h2 => ?_⟩, ?_⟩
      · rcases Nat.eq_or_lt_of_le h1 with rfl | h1
        · exact hc
        · exact Int.le_trans hc (Int.le_of_lt (hs h t h1 h2))
      repeat' (first | (refine And.intro ?_ ?_) | (intro _) | exact rfl)
      all_goals exact hh.symm
  · have hb : ¬ (i : Int) < j := of_decide_eq_false hb
    have e : lowB (fun i => 16 * (l.w i).tick) l.n q = i := lowB_eq (by omega) x3 (fun t h1 h2 => x4 t (by omega) h2)
    refine And.intro (fun hc => ?_) ?_
    · have hc : (i : Int) < l.n := of_decide_eq_true hc
      exact ⟨by omega, hc⟩
    refine And.intro (fun hc => ?_) ?_
    · have hc : (i : Int) < l.n := of_decide_eq_true hc
      exact ⟨fun _ _ _ _ => trivial, ht i (by omega), hq⟩
    refine And.intro (congrArg (fun k : Nat => (k : Int)) e) ?_
    refine Eq.trans (a := hitB (fun i => 16 * (l.w i).tick) l.n q) (b := decide ((i : Int) < l.n) && decide ((fun i => 16 * (l.w i).tick) i - q = 0)) ?_ rfl
    unfold hitB
    rw [e]
    congr 1
    exact decide_eq_decide.2 (by simp only; omega)
noncomputable def conBsW : Con cx := walkCon 54 Tryz.call54 (rds3 rdWrs (rdI .i64) rdX) (fun a => [(a.1.n : Int) ≤ halfN, Inc (fun i => 16 * (a.1.w i).tick) a.1.n, ∀ i, i < a.1.n → 0 ≤ (a.1.w i).tick ∧ (a.1.w i).tick ≤ 1073741824, 0 ≤ a.2.1 ∧ a.2.1 ≤ 34359738368, a.2.2 = (.v (.func (.func 55) #[] #[]))]) (fun a => .tup [i64 (lowB (fun i => 16 * (a.1.w i).tick) a.1.n a.2.1), .v (.bool (hitB (fun i => 16 * (a.1.w i).tick) a.1.n a.2.1))]) (fun _ => ⟨[], [], [3], 0⟩) [] (fun _ => rfl) follows Tryz.func54 (by kernel_rfl) BsW_walk
def keyH (h : Wrs) (i : Nat) : Int := 16 * (h.w i).tick
def lowH (h : Wrs) (t : Int) : Nat := lowB (fun i => 16 * (h.w i).tick) h.n t
def hitH (h : Wrs) (t : Int) : Bool := hitB (fun i => 16 * (h.w i).tick) h.n t
def shB (h : Wrs) (tick part : Int) : Bool := !histB h || decide (tick < 0) || decide (1073741824 < tick) || decide (part < 0) || decide (16 ≤ part)
def shownE (h : Wrs) (tick part : Int) : Wor × Int := match shB h tick part with
  | true => (Wor.no, 2)
  | false => match hitH h (16 * tick + part) with
    | true => (h.w (lowH h (16 * tick + part)), 0)
    | false => match decide ((lowH h (16 * tick + part) : Int) = 0) || decide ((lowH h (16 * tick + part) : Int) = h.n) with
      | true => (Wor.no, 6)
      | false => betwE (h.w ((lowH h (16 * tick + part) : Int) - 1).toNat) (h.w (lowH h (16 * tick + part))) (16 * tick + part - 16 * (h.w ((lowH h (16 * tick + part) : Int) - 1).toNat).tick) (16 * (h.w (lowH h (16 * tick + part))).tick - 16 * (h.w ((lowH h (16 * tick + part) : Int) - 1).toNat).tick)
structure Wrs.Hist (h : Wrs) : Prop where
  v : ∀ i, i < h.n → (h.w i).Valid
  inc : Inc (fun i => (h.w i).tick) h.n
  len : h.n ≤ 40
theorem hist_of {h : Wrs} (hb : histB h = true) : h.Hist := by
  unfold histB at hb
  simp only [Bool.and_eq_true, Bool.not_eq_true', decide_eq_true_eq] at hb
  obtain ⟨h1, h2⟩ := hb
  have hn : ∀ i, i < h.n → badH h i = false := fun i hi => anyN_no h1 i (Nat.zero_le _) (by omega)
  have hs : ∀ i, i + 1 < h.n → (h.w i).tick < (h.w (i + 1)).tick := fun i hi => by
    have := hn (i + 1) hi
    unfold badH at this
    simp only [Bool.or_eq_false_iff, Bool.and_eq_false_iff, decide_eq_false_iff_not] at this
    have h3 : ¬ (h.w i).tick ≥ (h.w (i + 1)).tick := by
      rcases this.2 with h4 | h4
      · omega
      · exact h4
    omega
  refine ⟨fun i hi => ?_, fun i j hij => ?_, by omega⟩
  · have := hn i hi
    unfold badH at this
    simp only [Bool.or_eq_false_iff, Bool.not_eq_false'] at this
    exact Wor.valid_iff.1 this.1
  · induction j with
    | zero => omega
    | succ j ih =>
      intro hj
      rcases Nat.eq_or_lt_of_le (Nat.le_of_lt_succ hij) with rfl | h3
      · exact hs _ hj
      · exact Int.lt_trans (ih h3 (by omega)) (hs _ hj)
theorem shB_no {h : Wrs} {tick part : Int} (hb : shB h tick part = false) : h.Hist ∧ 0 ≤ tick ∧ tick ≤ 1073741824 ∧ 0 ≤ part ∧ part < 16 := by
  unfold shB at hb
  simp only [Bool.or_eq_false_iff, Bool.not_eq_false', decide_eq_false_iff_not] at hb
  exact ⟨hist_of hb.1.1.1.1, by omega, by omega, by omega, by omega⟩
set_option maxHeartbeats 2000000 in
set_option maxRecDepth 8000 in
theorem Shown_walk : ∀ a, conj ((fun a => [a.1.Sm]) a) → evFn (C := cx) [conHValid, conBsW, conWOwn, conBetw] [] 0 noHow Tryz.f21 ((rds3 rdWrs (rdI .i64) (rdI .i64)).enc a) fun v H _ => resOut ((fun a => .tup [(shownE a.1 a.2.1 a.2.2).1.sv, .v (.int .i64 (shownE a.1 a.2.1 a.2.2).2)]) a) H v := by
  intro ⟨h, tick, part⟩ hm
  replace hm : h.Sm := hm
  refine And.intro ⟨fun _ _ _ _ _ _ => trivial, hm⟩ ?_
  refine And.intro (fun hv => ?_) (fun hv => ?_)
  · have hv : shB h tick part = true := hv
    have e : shownE h tick part = (Wor.no, 2) := by unfold shownE; rw [hv]
    simp only [e]
    repeat' (first | (refine And.intro ?_ ?_) | (intro _) | exact rfl)
    all_goals exact absurd ‹_ < 0› (Nat.not_lt_zero _)
  have hv : shB h tick part = false := hv
  obtain ⟨hh, t0, t1, p0, p1⟩ := shB_no hv
  have hlen := hh.len
  refine And.intro (by unfold I64; omega : I64 (16 * tick)) ?_
  refine And.intro (by unfold I64; omega : I64 (16 * tick + part)) ?_
  have q1 : (h.n : Int) ≤ halfN := by unfold halfN; omega
  have q2 : Inc (fun i => 16 * (h.w i).tick) h.n := fun i j h1 h2 => by have := hh.inc i j h1 h2; simp only at this ⊢; omega
  have q3 : ∀ i, i < h.n → 0 ≤ (h.w i).tick ∧ (h.w i).tick ≤ 1073741824 := fun i hi => ⟨(hh.v i hi).lo, (hh.v i hi).hi⟩
  have q4 : 0 ≤ 16 * tick + part ∧ 16 * tick + part ≤ 34359738368 := by omega
  refine And.intro ⟨fun _ _ _ _ _ _ => trivial, q1, q2, q3, q4, rfl⟩ ?_
  refine And.intro (fun hx => ?_) (fun hx => ?_)
  · have hx : hitH h (16 * tick + part) = true := hx
    have e : shownE h tick part = (h.w (lowH h (16 * tick + part)), 0) := by unfold shownE; rw [hv, hx]
    simp only [e]
    have hl : lowH h (16 * tick + part) < h.n := (hitB_iff.1 hx).1
    have q5 : 0 ≤ (lowH h (16 * tick + part) : Int) ∧ (lowH h (16 * tick + part) : Int) < h.n := ⟨by omega, by omega⟩
    obtain ⟨w1, w2⟩ := (hh.v _ hl).two
    have w3 : (h.w (lowH h (16 * tick + part))).l.n ≤ 1000 := by omega
    have w4 : ∀ i, i < (h.w (lowH h (16 * tick + part))).l.n → ((h.w (lowH h (16 * tick + part))).l.e i).l.n ≤ 1000 := fun i hi => by have := w2 i hi; omega
    refine And.intro q5 ?_
    refine And.intro ⟨fun _ _ _ _ => trivial, w3, w4⟩ ?_
    repeat' (first | (refine And.intro ?_ ?_) | (intro _) | exact rfl)
  have hx : hitH h (16 * tick + part) = false := hx
  refine And.intro (fun hc => ?_) (fun hc => ?_)
  · have hc : (decide ((lowH h (16 * tick + part) : Int) = 0) || decide ((lowH h (16 * tick + part) : Int) = h.n)) = true := hc
    have e : shownE h tick part = (Wor.no, 6) := by unfold shownE; rw [hv, hx, hc]
    simp only [e]
    repeat' (first | (refine And.intro ?_ ?_) | (intro _) | exact rfl)
    all_goals exact absurd ‹_ < 0› (Nat.not_lt_zero _)
  have hc : (decide ((lowH h (16 * tick + part) : Int) = 0) || decide ((lowH h (16 * tick + part) : Int) = h.n)) = false := hc
  have e : shownE h tick part = betwE (h.w ((lowH h (16 * tick + part) : Int) - 1).toNat) (h.w (lowH h (16 * tick + part))) (16 * tick + part - 16 * (h.w ((lowH h (16 * tick + part) : Int) - 1).toNat).tick) (16 * (h.w (lowH h (16 * tick + part))).tick - 16 * (h.w ((lowH h (16 * tick + part) : Int) - 1).toNat).tick) := by unfold shownE; rw [hv, hx, hc]
  simp only [e]
  simp only [Bool.or_eq_false_iff, decide_eq_false_iff_not] at hc
  have hle : lowH h (16 * tick + part) ≤ h.n := lowB_le
  obtain ⟨L, hL⟩ : ∃ L, L = lowH h (16 * tick + part) := ⟨_, rfl⟩
  have k1 := q3 L (by omega)
  have k2 := q3 (((L : Int) - 1).toNat) (by omega)
  rw [hL] at k1 k2
  have o1 : I64 ((lowH h (16 * tick + part) : Int) - 1) := by unfold I64; omega
  have o2 : 0 ≤ (lowH h (16 * tick + part) : Int) - 1 ∧ (lowH h (16 * tick + part) : Int) - 1 < h.n := by omega
  have o3 : I64 (16 * (h.w ((lowH h (16 * tick + part) : Int) - 1).toNat).tick) := by unfold I64; omega
  have o4 : 0 ≤ (lowH h (16 * tick + part) : Int) ∧ (lowH h (16 * tick + part) : Int) < h.n := by omega
  have o5 : I64 (16 * tick + part - 16 * (h.w ((lowH h (16 * tick + part) : Int) - 1).toNat).tick) := by unfold I64; omega
  have o6 : I64 (16 * (h.w (lowH h (16 * tick + part))).tick) := by unfold I64; omega
  have o7 : I64 (16 * (h.w (lowH h (16 * tick + part))).tick - 16 * (h.w ((lowH h (16 * tick + part) : Int) - 1).toNat).tick) := by unfold I64; omega
  have s1 : (h.w ((lowH h (16 * tick + part) : Int) - 1).toNat).l.Sm := hm.2 _ (by omega)
  have s2 : (h.w (lowH h (16 * tick + part))).l.Sm := hm.2 _ (by omega)
  refine And.intro o1 ?_
  refine And.intro o2 ?_
  refine And.intro o3 ?_
  refine And.intro o1 ?_
  refine And.intro o2 ?_
  refine And.intro o4 ?_
  refine And.intro o5 ?_
  refine And.intro o4 ?_
  refine And.intro o6 ?_
  refine And.intro o7 ?_
  refine And.intro ⟨fun _ _ _ _ => trivial, fun _ _ _ _ => trivial, s1, s2⟩ ?_
  repeat' (first | (refine And.intro ?_ ?_) | (intro _) | exact rfl)
  all_goals skip
noncomputable def conShown : Con cx := walkCon 21 Tryz.call21 (rds3 rdWrs (rdI .i64) (rdI .i64)) (fun a => [a.1.Sm]) (fun a => .tup [(shownE a.1 a.2.1 a.2.2).1.sv, .v (.int .i64 (shownE a.1 a.2.1 a.2.2).2)]) (fun _ => noHow) [] (fun _ => rfl) follows Tryz.func21 (by kernel_rfl) Shown_walk
end Go.Proofs.YtjdohgcolhpegaaGreatDoor
namespace Go.Proofs.YtjdohgcolhpegaaGreatDoor
open Go.RowKit

def fewB (w : Wor) : Bool := !decide ((12 : Int) < w.l.n) && !anyN (fun i => decide ((12 : Int) < (w.l.e i).l.n)) 0 w.l.n
def fewC (w : Wor) : Cut := ⟨Nat, fun k => k ≤ w.l.n ∧ anyN (fun i => decide ((12 : Int) < (w.l.e i).l.n)) 0 w.l.n = anyN (fun i => decide ((12 : Int) < (w.l.e i).l.n)) k (w.l.n - k),
  fun k => ⟨[sl 10 w.l.sv, sl 11 (i64 w.l.n), sl 12 (i64 k)], [], 0, 0, [], []⟩, fun k => w.l.n - k⟩
set_option maxHeartbeats 2000000 in
set_option maxRecDepth 8000 in
theorem FewW_walk : ∀ a, conj ((fun a => []) a) → evFn (C := cx) [] [] 0 ⟨[], [], [4], 0⟩ Tryz.f71 ((rds1 rdWor).enc a) fun v H _ => resOut ((fun a => .v (.bool (fewB a))) a) H v := by
  intro w _
  refine And.intro (fun hx => ?_) (fun hx => ?_)
  · have hx : decide ((12 : Int) < w.l.n) = true := hx
    have e : fewB w = false := by unfold fewB; rw [hx]; rfl
    simp only [e]
    exact rfl
  have hx : decide ((12 : Int) < w.l.n) = false := hx
  have hx12 := of_decide_eq_false hx
  refine Exists.intro (fewC w) ?_
  refine And.intro ?_ ?_
  · refine ⟨(0 : Nat), [], [], trivial, ⟨Nat.zero_le _, rfl⟩, ?_⟩
    repeat' (first | (refine And.intro ?_ ?_) | (intro _) | exact rfl)
  refine fun (k : Nat) (hk : k ≤ w.l.n ∧ anyN (fun i => decide ((12 : Int) < (w.l.e i).l.n)) 0 (w.l.n) = anyN (fun i => decide ((12 : Int) < (w.l.e i).l.n)) k (w.l.n - k)) => ?_
  obtain ⟨k1, k2⟩ := hk
  refine And.intro (fun hb => ?_) (fun hb => ?_)
  · have hb : (k : Int) < w.l.n := of_decide_eq_true hb
    have e := anyN_step (g := (fun i => decide ((12 : Int) < (w.l.e i).l.n))) (k := k) (n := w.l.n) (by omega)
    refine And.intro ⟨by omega, by omega⟩ ?_
    refine And.intro (fun hc => ?_) (fun hc => ?_)
    · have hc : (fun i => decide ((12 : Int) < (w.l.e i).l.n)) k = true := hc
      simp only [hc] at e
      have e0 : anyN (fun i => decide ((12 : Int) < (w.l.e i).l.n)) 0 (w.l.n) = true := by rw [k2, e]
      have e1 : fewB w = false := by unfold fewB; rw [e0]; simp
      simp only [e1]
      exact rfl
    · have hc : (fun i => decide ((12 : Int) < (w.l.e i).l.n)) k = false := hc
      simp only [hc] at e
      refine And.intro (by unfold I64; omega : I64 ((k : Int) + 1)) ?_
      refine ⟨k + 1, [], [], (by show w.l.n - (k + 1) < w.l.n - k; omega), ⟨by omega, by rw [k2, e]⟩, ?_⟩
      repeat' (first | (refine And.intro ?_ ?_) | (intro _) | exact rfl)
  · have hb : ¬ (k : Int) < w.l.n := of_decide_eq_false hb
    have e0 : anyN (fun i => decide ((12 : Int) < (w.l.e i).l.n)) 0 (w.l.n) = false := by rw [k2, show w.l.n - k = 0 by omega]; rfl
    have e1 : fewB w = true := by unfold fewB; rw [e0, hx]; rfl
    simp only [e1]
    exact rfl
noncomputable def conFewW : Con cx := walkCon 71 Tryz.call71 (rds1 rdWor) (fun a => []) (fun a => .v (.bool (fewB a))) (fun _ => ⟨[], [], [4], 0⟩) [] (fun _ => rfl) follows Tryz.func71 (by kernel_rfl) FewW_walk
def fewsB (h : Wrs) : Bool := !decide ((44 : Int) < h.n) && !anyN (fun i => !fewB (h.w i)) 0 h.n
def fewsC (h : Wrs) : Cut := ⟨Nat, fun k => k ≤ h.n ∧ anyN (fun i => !fewB (h.w i)) 0 h.n = anyN (fun i => !fewB (h.w i)) k (h.n - k),
  fun k => ⟨[sl 8 h.sv, sl 9 (i64 h.n), sl 10 (i64 k)], [], 0, 0, [], []⟩, fun k => h.n - k⟩
set_option maxHeartbeats 2000000 in
set_option maxRecDepth 8000 in
theorem Few28_walk : ∀ a, conj ((fun a => []) a) → evFn (C := cx) [conFewW] [] 0 ⟨[], [], [4], 0⟩ Tryz.f31 ((rds1 rdWrs).enc a) fun v H _ => resOut ((fun a => .v (.bool (fewsB a))) a) H v := by
  intro h _
  refine And.intro (fun hx => ?_) (fun hx => ?_)
  · have hx : decide ((44 : Int) < h.n) = true := hx
    have e : fewsB h = false := by unfold fewsB; rw [hx]; rfl
    simp only [e]
    exact rfl
  have hx : decide ((44 : Int) < h.n) = false := hx
  have hx44 := of_decide_eq_false hx
  refine Exists.intro (fewsC h) ?_
  refine And.intro ?_ ?_
  · refine ⟨(0 : Nat), [], [], trivial, ⟨Nat.zero_le _, rfl⟩, ?_⟩
    repeat' (first | (refine And.intro ?_ ?_) | (intro _) | exact rfl)
  refine fun (k : Nat) (hk : k ≤ h.n ∧ anyN (fun i => !fewB (h.w i)) 0 (h.n) = anyN (fun i => !fewB (h.w i)) k (h.n - k)) => ?_
  obtain ⟨k1, k2⟩ := hk
  refine And.intro (fun hb => ?_) (fun hb => ?_)
  · have hb : (k : Int) < h.n := of_decide_eq_true hb
    have e := anyN_step (g := (fun i => !fewB (h.w i))) (k := k) (n := h.n) (by omega)
    refine And.intro ⟨by omega, by omega⟩ ?_
    refine And.intro (fun _ _ _ _ => trivial) ?_
    refine And.intro (fun hc => ?_) (fun hc => ?_)
    · have hc : (fun i => !fewB (h.w i)) k = true := hc
      simp only [hc] at e
      have e0 : anyN (fun i => !fewB (h.w i)) 0 (h.n) = true := by rw [k2, e]
      have e1 : fewsB h = false := by unfold fewsB; rw [e0]; simp
      simp only [e1]
      exact rfl
    · have hc : (fun i => !fewB (h.w i)) k = false := hc
      simp only [hc] at e
      refine And.intro (by unfold I64; omega : I64 ((k : Int) + 1)) ?_
      refine ⟨k + 1, [], [], (by show h.n - (k + 1) < h.n - k; omega), ⟨by omega, by rw [k2, e]⟩, ?_⟩
      repeat' (first | (refine And.intro ?_ ?_) | (intro _) | exact rfl)
  · have hb : ¬ (k : Int) < h.n := of_decide_eq_false hb
    have e0 : anyN (fun i => !fewB (h.w i)) 0 (h.n) = false := by rw [k2, show h.n - k = 0 by omega]; rfl
    have e1 : fewsB h = true := by unfold fewsB; rw [e0, hx]; rfl
    simp only [e1]
    exact rfl
noncomputable def conFew28 : Con cx := walkCon 31 Tryz.call31 (rds1 rdWrs) (fun a => []) (fun a => .v (.bool (fewsB a))) (fun _ => ⟨[], [], [4], 0⟩) [] (fun _ => rfl) follows Tryz.func31 (by kernel_rfl) Few28_walk
theorem al1 {p : Nat → Prop} (h0 : p 0) : ∀ i, i < 1 → p i := fun i hi => by
  match i, hi with
  | 0, _ => exact h0
def Wrs.one (w : Wor) : Wrs := ⟨1, fun _ => w⟩
def fewAll (h : Wrs) (w : Wor) : Bool := fewsB h && fewB w
theorem one_few {w : Wor} : fewsB (Wrs.one w) = fewB w := by
  show (!decide ((44 : Int) < ((1 : Nat) : Int)) && !anyN (fun _ => !fewB w) 0 1) = fewB w
  cases h : fewB w <;> simp [anyN, h]
set_option maxHeartbeats 2000000 in
set_option maxRecDepth 8000 in
theorem Few29_walk : ∀ a, conj ((fun a => []) a) → evFn (C := cx) [conFew28] [] 0 noHow Tryz.f9 ((rds2 rdWrs rdWor).enc a) fun v H _ => resOut ((fun a => .v (.bool (fewAll a.1 a.2))) a) H v := by
  intro ⟨h, w⟩ _
  refine And.intro (fun _ _ _ _ _ _ => trivial) ?_
  refine And.intro (fun _ => al1 (fun _ _ _ _ => trivial)) ?_
  refine Eq.trans (a := fewAll h w) (b := fewsB h && (!decide ((44 : Int) < ((1 : Nat) : Int)) && !(match !fewB w with | true => true | false => false))) ?_ rfl
  unfold fewAll
  cases fewB w <;> rfl
noncomputable def conFew29 : Con cx := walkCon 9 Tryz.call9 (rds2 rdWrs rdWor) (fun a => []) (fun a => .v (.bool (fewAll a.1 a.2))) (fun _ => noHow) [] (fun _ => rfl) follows Tryz.func9 (by kernel_rfl) Few29_walk
def withB (x y m : Int) : Bool := decide (max x y ≤ m) && decide (-m ≤ min x y)
def fitsB (c : Int) (i : Df.Input) : Bool := decide (1 ≤ c) && decide (c ≤ 8) && withB i.aimX i.aimY 8192 && decide (0 ≤ i.seen) && decide (i.seen ≤ 1073741824) && decide (0 ≤ i.part) && decide (i.part < 16)
set_option maxHeartbeats 2000000 in
set_option maxRecDepth 8000 in
theorem Within_walk : ∀ a, conj ((fun a => [0 ≤ a.2 ∧ a.2 ≤ 1073741824]) a) → evFn (C := cx) [] [] 0 noHow Tryz.f37 ((rds2 rdVec (rdI .i64)).enc a) fun v H _ => resOut ((fun a => .v (.bool (withB a.1.x a.1.y a.2))) a) H v := by
  intro ⟨p, m⟩ hm
  replace hm : 0 ≤ m ∧ m ≤ 1073741824 := hm
  refine And.intro (fun _ => (by unfold I64; omega : I64 (-m))) ?_
  exact rfl
noncomputable def conWithin : Con cx := walkCon 37 Tryz.call37 (rds2 rdVec (rdI .i64)) (fun a => [0 ≤ a.2 ∧ a.2 ≤ 1073741824]) (fun a => .v (.bool (withB a.1.x a.1.y a.2))) (fun _ => noHow) [] (fun _ => rfl) follows Tryz.func37 (by kernel_rfl) Within_walk
set_option maxHeartbeats 2000000 in
set_option maxRecDepth 8000 in
theorem RFits_walk : ∀ a, conj ((fun a => []) a) → evFn (C := cx) [conWithin] [] 0 noHow Tryz.f34 ((rds2 (rdI .i64) Df.rdInput).enc a) fun v H _ => resOut ((fun a => .v (.bool (fitsB a.1 a.2))) a) H v := by
  intro ⟨c, i⟩ _
  refine And.intro (fun _ => (⟨by decide, by decide⟩ : (0 : Int) ≤ 8192 ∧ (8192 : Int) ≤ 1073741824)) ?_
  exact rfl
noncomputable def conRFits : Con cx := walkCon 34 Tryz.call34 (rds2 (rdI .i64) Df.rdInput) (fun a => []) (fun a => .v (.bool (fitsB a.1 a.2))) (fun _ => noHow) [] (fun _ => rfl) follows Tryz.func34 (by kernel_rfl) RFits_walk
def shotI (i : Df.Input) : Df.Input := ⟨1 + (i.client.tmod 8 + 8).tmod 8, i.seq, i.tick, i.moveX, i.moveY, true, i.aimX.tmod 8193, i.aimY.tmod 8193, i.seen, i.part⟩
theorem tmod_rng {a b : Int} (h : 0 < b) : -b < a.tmod b ∧ a.tmod b < b := by
  refine ⟨?_, Int.tmod_lt_of_pos a h⟩
  have h1 := Int.tmod_lt_of_pos (-a) h
  rw [Int.neg_tmod] at h1
  omega
set_option maxHeartbeats 2000000 in
set_option maxRecDepth 8000 in
theorem Shot_walk : ∀ a, conj ((fun a => []) a) → evFn (C := cx) [] [] 0 noHow Tryz.f11 ((rds1 Df.rdInput).enc a) fun v H _ => resOut ((fun a => (shotI a).sv) a) H v := by
  intro i _
  have h1 := tmod_rng (a := i.client) (b := 8) (by decide)
  have h2 := tmod_rng (a := i.client.tmod 8 + 8) (b := 8) (by decide)
  repeat' (first | (refine And.intro ?_ ?_) | (intro _) | exact rfl | exact trivial)
  all_goals first | omega | skip
noncomputable def conShot : Con cx := walkCon 11 Tryz.call11 (rds1 Df.rdInput) (fun a => []) (fun a => (shotI a).sv) (fun _ => noHow) [] (fun _ => rfl) follows Tryz.func11 (by kernel_rfl) Shot_walk
def atF (f : Fam) (i : Nat) : Int := bif Nat.blt i f.n then f.g i else 0
def compF (q : Int) (f : Fam) : Comp := ⟨q, atF f 0, atF f 1, atF f 2, atF f 3⟩
set_option maxHeartbeats 2000000 in
set_option maxRecDepth 8000 in
theorem Comp29_walk : ∀ a, conj ((fun a => []) a) → evFn (C := cx) [] [] 0 noHow Tryz.f20 ((rds2 (rdI .u8) (rdF .i64)).enc a) fun v H _ => resOut ((fun a => (compF a.1 a.2).sv) a) H v := by
  intro ⟨q, f⟩ _
  repeat' (first | (refine And.intro ?_ ?_) | (intro _) | exact rfl | exact trivial)
  all_goals skip
noncomputable def conComp29 : Con cx := walkCon 20 Tryz.call20 (rds2 (rdI .u8) (rdF .i64)) (fun a => []) (fun a => (compF a.1 a.2).sv) (fun _ => noHow) [] (fun _ => rfl) follows Tryz.func20 (by kernel_rfl) Comp29_walk
def sceneE (y : Int) : Nat → Ent
  | 0 => ⟨1, ⟨2, fun j => match j with | 0 => ⟨1, 0, 0, 0, 0⟩ | _ => ⟨4, 2, 0, 0, 0⟩⟩⟩
  | _ => ⟨5, ⟨3, fun j => match j with | 0 => ⟨1, 20, y, 0, 0⟩ | 1 => ⟨3, 4, 4, 0, 0⟩ | _ => ⟨8, 10, 3, 0, 0⟩⟩⟩
def sceneW (t y : Int) : Wor := ⟨t, ⟨2, sceneE y⟩⟩
theorem al2 {p : Nat → Prop} (h0 : p 0) (h1 : p 1) : ∀ i, i < 2 → p i := fun i hi => by
  match i, hi with
  | 0, _ => exact h0
  | 1, _ => exact h1
theorem al3 {p : Nat → Prop} (h0 : p 0) (h1 : p 1) (h2 : p 2) : ∀ i, i < 3 → p i := fun i hi => by
  match i, hi with
  | 0, _ => exact h0
  | 1, _ => exact h1
  | 2, _ => exact h2
set_option maxHeartbeats 2000000 in
set_option maxRecDepth 8000 in
theorem Scene_walk : ∀ a, conj ((fun a => []) a) → evFn (C := cx) [conComp29] [] 0 noHow Tryz.f28 ((rds2 (rdI .i64) (rdI .i64)).enc a) fun v H _ => resOut ((fun a => (sceneW a.1 a.2).sv) a) H v := by
  intro ⟨t, y⟩ _
  refine And.intro (al1 trivial) ?_
  refine And.intro (al2 trivial trivial) ?_
  refine And.intro (al2 trivial trivial) ?_
  refine And.intro (al2 trivial trivial) ?_
  repeat' (first | (refine And.intro ?_ ?_) | exact rfl | exact trivial | (refine al2 ?_ ?_) | (refine al3 ?_ ?_ ?_))
noncomputable def conScene : Con cx := walkCon 28 Tryz.call28 (rds2 (rdI .i64) (rdI .i64)) (fun a => []) (fun a => (sceneW a.1 a.2).sv) (fun _ => noHow) [] (fun _ => rfl) follows Tryz.func28 (by kernel_rfl) Scene_walk
def eqC (a b : Comp) : Bool := decide (a.kind = b.kind) && (decide (a.v0 = b.v0) && (decide (a.v1 = b.v1) && (decide (a.v2 = b.v2) && decide (a.v3 = b.v3))))
def sameE (a b : Ent) : Bool := !(decide (¬ a.iD = b.iD) || decide (¬ (a.l.n : Int) = b.l.n)) && !anyN (fun i => !eqC (a.l.c i) (b.l.c i)) 0 a.l.n
def sameEC (a b : Ent) : Cut := ⟨Nat, fun k => k ≤ a.l.n ∧ anyN (fun i => !eqC (a.l.c i) (b.l.c i)) 0 a.l.n = anyN (fun i => !eqC (a.l.c i) (b.l.c i)) k (a.l.n - k),
  fun k => ⟨[sl 2 (.p 0 0), sl 3 (.p 1 0), sl 22 (i64 a.l.n), sl 23 (i64 k)], [(0, .lay a.cells 35), (1, .lay b.cells 35)], 2, 0, [], []⟩, fun k => a.l.n - k⟩
set_option maxHeartbeats 2000000 in
set_option maxRecDepth 8000 in
theorem SameE_walk : ∀ a, conj ((fun a => [(a.1.l.n : Int) ≤ bigN]) a) → evFn (C := cx) [] [] 0 ⟨[], [], [4], 0⟩ Tryz.f50 ((rds2 rdEnt rdEnt).enc a) fun v H _ => resOut ((fun a => .v (.bool (sameE a.1 a.2))) a) H v := by
  intro ⟨a, b⟩ hp
  replace hp : (a.l.n : Int) ≤ 9223372036854775807 := hp
  refine And.intro (fun hx => ?_) (fun hx => ?_)
  · have hx : (decide (¬ a.iD = b.iD) || decide (¬ (a.l.n : Int) = b.l.n)) = true := hx
    have e : sameE a b = false := by unfold sameE; rw [hx]; rfl
    simp only [e]
    exact rfl
  have hx : (decide (¬ a.iD = b.iD) || decide (¬ (a.l.n : Int) = b.l.n)) = false := hx
  have hn : (a.l.n : Int) = b.l.n := by simp at hx; omega
  refine Exists.intro (sameEC a b) ?_
  refine And.intro ?_ ?_
  · refine ⟨(0 : Nat), [], [], trivial, ⟨Nat.zero_le _, rfl⟩, ?_⟩
    repeat' (first | (refine And.intro ?_ ?_) | (intro _) | exact rfl)
  refine fun (k : Nat) (hk : k ≤ a.l.n ∧ anyN (fun i => !eqC (a.l.c i) (b.l.c i)) 0 (a.l.n) = anyN (fun i => !eqC (a.l.c i) (b.l.c i)) k (a.l.n - k)) => ?_
  obtain ⟨k1, k2⟩ := hk
  refine And.intro (fun hb => ?_) (fun hb => ?_)
  · have hb : (k : Int) < a.l.n := of_decide_eq_true hb
    have e := anyN_step (g := (fun i => !eqC (a.l.c i) (b.l.c i))) (k := k) (n := a.l.n) (by omega)
    refine And.intro ⟨by omega, by omega⟩ ?_
    refine And.intro ⟨by omega, by omega⟩ ?_

    refine And.intro (fun hc => ?_) (fun hc => ?_)
    · have hc : (fun i => !eqC (a.l.c i) (b.l.c i)) k = true := hc
      simp only [hc] at e
      have e0 : anyN (fun i => !eqC (a.l.c i) (b.l.c i)) 0 (a.l.n) = true := by rw [k2, e]
      have e1 : sameE a b = false := by unfold sameE; rw [e0]; simp
      simp only [e1]
      exact rfl
    · have hc : (fun i => !eqC (a.l.c i) (b.l.c i)) k = false := hc
      simp only [hc] at e
      refine And.intro (by unfold I64; omega : I64 ((k : Int) + 1)) ?_
      refine ⟨k + 1, [], [], (by show a.l.n - (k + 1) < a.l.n - k; omega), ⟨by omega, by rw [k2, e]⟩, ?_⟩
      repeat' (first | (refine And.intro ?_ ?_) | (intro _) | exact rfl)
  · have hb : ¬ (k : Int) < a.l.n := of_decide_eq_false hb
    have e0 : anyN (fun i => !eqC (a.l.c i) (b.l.c i)) 0 (a.l.n) = false := by rw [k2, show a.l.n - k = 0 by omega]; rfl
    have e1 : sameE a b = true := by unfold sameE; rw [e0, hx]; rfl
    simp only [e1]
    exact rfl
noncomputable def conSameE : Con cx := walkCon 50 Tryz.call50 (rds2 rdEnt rdEnt) (fun a => [(a.1.l.n : Int) ≤ bigN]) (fun a => .v (.bool (sameE a.1 a.2))) (fun _ => ⟨[], [], [4], 0⟩) [] (fun _ => rfl) follows Tryz.func50 (by kernel_rfl) SameE_walk
def sameW (a b : Wor) : Bool := !(decide (¬ a.tick = b.tick) || decide (¬ (a.l.n : Int) = b.l.n)) && !anyN (fun i => !sameE (a.l.e i) (b.l.e i)) 0 a.l.n
def sameWC (a b : Wor) : Cut := ⟨Nat, fun k => k ≤ a.l.n ∧ anyN (fun i => !sameE (a.l.e i) (b.l.e i)) 0 a.l.n = anyN (fun i => !sameE (a.l.e i) (b.l.e i)) k (a.l.n - k),
  fun k => ⟨[sl 2 (.p 0 0), sl 3 (.p 1 0), sl 22 (i64 a.l.n), sl 23 (i64 k)], [(0, .lay a.cells 25), (1, .lay b.cells 25)], 2, 0, [], []⟩, fun k => a.l.n - k⟩
set_option maxHeartbeats 2000000 in
set_option maxRecDepth 8000 in
theorem SameW_walk : ∀ a, conj ((fun a => [(a.1.l.n : Int) ≤ bigN, ∀ i, i < a.1.l.n → ((a.1.l.e i).l.n : Int) ≤ bigN]) a) → evFn (C := cx) [conSameE] [] 0 ⟨[], [], [4], 0⟩ Tryz.f18 ((rds2 rdWor rdWor).enc a) fun v H _ => resOut ((fun a => .v (.bool (sameW a.1 a.2))) a) H v := by
  intro ⟨a, b⟩ hp
  obtain ⟨hp, hq⟩ : (a.l.n : Int) ≤ 9223372036854775807 ∧ ∀ i, i < a.l.n → ((a.l.e i).l.n : Int) ≤ bigN := hp
  refine And.intro (fun hx => ?_) (fun hx => ?_)
  · have hx : (decide (¬ a.tick = b.tick) || decide (¬ (a.l.n : Int) = b.l.n)) = true := hx
    have e : sameW a b = false := by unfold sameW; rw [hx]; rfl
    simp only [e]
    exact rfl
  have hx : (decide (¬ a.tick = b.tick) || decide (¬ (a.l.n : Int) = b.l.n)) = false := hx
  have hn : (a.l.n : Int) = b.l.n := by simp at hx; omega
  refine Exists.intro (sameWC a b) ?_
  refine And.intro ?_ ?_
  · refine ⟨(0 : Nat), [], [], trivial, ⟨Nat.zero_le _, rfl⟩, ?_⟩
    repeat' (first | (refine And.intro ?_ ?_) | (intro _) | exact rfl)
  refine fun (k : Nat) (hk : k ≤ a.l.n ∧ anyN (fun i => !sameE (a.l.e i) (b.l.e i)) 0 (a.l.n) = anyN (fun i => !sameE (a.l.e i) (b.l.e i)) k (a.l.n - k)) => ?_
  obtain ⟨k1, k2⟩ := hk
  refine And.intro (fun hb => ?_) (fun hb => ?_)
  · have hb : (k : Int) < a.l.n := of_decide_eq_true hb
    have e := anyN_step (g := (fun i => !sameE (a.l.e i) (b.l.e i))) (k := k) (n := a.l.n) (by omega)
    refine And.intro ⟨by omega, by omega⟩ ?_
    refine And.intro ⟨by omega, by omega⟩ ?_
    refine And.intro ⟨fun _ _ => trivial, fun _ _ => trivial, hq k (by omega)⟩ ?_

    refine And.intro (fun hc => ?_) (fun hc => ?_)
    · have hc : (fun i => !sameE (a.l.e i) (b.l.e i)) k = true := hc
      simp only [hc] at e
      have e0 : anyN (fun i => !sameE (a.l.e i) (b.l.e i)) 0 (a.l.n) = true := by rw [k2, e]
      have e1 : sameW a b = false := by unfold sameW; rw [e0]; simp
      simp only [e1]
      exact rfl
    · have hc : (fun i => !sameE (a.l.e i) (b.l.e i)) k = false := hc
      simp only [hc] at e
      refine And.intro (by unfold I64; omega : I64 ((k : Int) + 1)) ?_
      refine ⟨k + 1, [], [], (by show a.l.n - (k + 1) < a.l.n - k; omega), ⟨by omega, by rw [k2, e]⟩, ?_⟩
      repeat' (first | (refine And.intro ?_ ?_) | (intro _) | exact rfl)
  · have hb : ¬ (k : Int) < a.l.n := of_decide_eq_false hb
    have e0 : anyN (fun i => !sameE (a.l.e i) (b.l.e i)) 0 (a.l.n) = false := by rw [k2, show a.l.n - k = 0 by omega]; rfl
    have e1 : sameW a b = true := by unfold sameW; rw [e0, hx]; rfl
    simp only [e1]
    exact rfl
noncomputable def conSameW : Con cx := walkCon 18 Tryz.call18 (rds2 rdWor rdWor) (fun a => [(a.1.l.n : Int) ≤ bigN, ∀ i, i < a.1.l.n → ((a.1.l.e i).l.n : Int) ≤ bigN]) (fun a => .v (.bool (sameW a.1 a.2))) (fun _ => ⟨[], [], [4], 0⟩) [] (fun _ => rfl) follows Tryz.func18 (by kernel_rfl) SameW_walk
end Go.Proofs.YtjdohgcolhpegaaGreatDoor
namespace Go.Proofs.YtjdohgcolhpegaaGreatDoor
open Go.RowKit

/-- Does a body not belong to a client? -/
def keepB (w : Wor) (c : Int) (b : Body) : Bool := !((getE w b.iD 4).2 && eqC (getE w b.iD 4).1 ⟨4, c, 0, 0, 0⟩)
def allL (w : Wor) : List Body := bodiesL w.l w.l.n
def othsL (w : Wor) (c : Int) (k : Nat) : List Body := filtM (fun i => bodG (allL w) i) (fun i => keepB w c (bodG (allL w) i)) k
theorem filtM_at {α : Type} {f : Nat → α} {g : Nat → Bool} {d : α} {i : Nat} (hg : g i = true) : ∀ n, i < n → (filtM f g n).getD (filtM f g i).length d = f i ∧ (filtM f g i).length < (filtM f g n).length
  | 0, h => absurd h (Nat.not_lt_zero i)
  | n + 1, h => by
    rcases Nat.eq_or_lt_of_le (Nat.le_of_lt_succ h) with rfl | h1
    · rw [filtM_yes hg]
      simp
    · obtain ⟨k1, k2⟩ := filtM_at (f := f) (d := d) hg n h1
      cases hn : g n with
      | true =>
        rw [filtM_yes hn]
        refine ⟨?_, by simp; omega⟩
        rw [← k1]
        simp [List.getD_eq_getElem?_getD, List.getElem?_append_left k2]
      | false => rw [filtM_no hn]; exact ⟨k1, k2⟩
def ownCells (c : Int) : List SV := [.il .u8 4, .v (.int .i64 c), .il .i64 0, .il .i64 0, .il .i64 0]
def othCap (w : Wor) (c : Int) : List SV := [.rp w.cells 0, .rp (ownCells c) 0]
def othSL (w : Wor) (c : Int) (l i : Nat) : List (Nat × Slot) := [sl 0 (.v (.func (.yield l) #[] #[])), sl 1 (.rp w.cells 0), sl 2 (.rp (ownCells c) 0), sl 11 (.rs 9 (allL w).length (fun i => (bodG (allL w) i).cells)), sl 12 (i64 (allL w).length), sl 13 (i64 i)]
set_option maxHeartbeats 4000000 in
set_option maxRecDepth 8000 in
theorem itOth (w : Wor) (c : Int) (hm : w.l.Sm) (hn : w.l.n ≤ 1000) : ItOk cx 72 (othCap w c) (othsL w c (allL w).length).length (fun k => (bodG (othsL w c (allL w).length) k).sv) := by
  have hN : (allL w).length ≤ 1000 := by
    have := filtM_len (f := fun i => (bodyF (w.l.e i)).1) (g := fun i => (bodyF (w.l.e i)).2) w.l.n
    unfold allL bodiesL; omega
  refine it_ok (Γ := [conBodies, conGet]) (I := inlD [conBodies, conGet] [] 0) (inls := []) (h := noHow) (fn := Tryz.f72) (inlD_ok follows 0) follows Tryz.func72 rfl rfl (cT := 14) (tf := 30) (ta := 31) (dy := 32) (dn := 33) (pre := [⟨some 30, .move (.tmp 0), 90, "rewind.go:48", #[], none⟩, ⟨some 31, .load 60 (.tmp 5), 60, "rewind.go:48", #[], none⟩]) rfl (by kernel_rfl) (by rfl) (by rfl) (by rfl) (by decide) (by rfl) (by rfl) (by rfl) (by rfl) (by rfl)
    (allL w).length (fun i => (othsL w c i).length) _ (othSL w c) (by rfl) (fun _ _ => by rfl) (fun _ _ => by rfl) (fun _ _ => ⟨by rfl, by rfl, by rfl, by rfl, by rfl⟩) (by decide) (fun _ => by rfl) (by rfl) ?_ ?_ ?_ ?_ ?_
  · intro i hi hl
    have hk : keepB w c (bodG (allL w) i) = true := by
      cases hk : keepB w c (bodG (allL w) i) with
      | true => rfl
      | false => have := filtM_no (f := fun i => bodG (allL w) i) (g := fun i => keepB w c (bodG (allL w) i)) (k := i) hk; unfold othsL at hl; rw [this] at hl; omega
    exact (filtM_at (f := fun i => bodG (allL w) i) (g := fun i => keepB w c (bodG (allL w) i)) (d := Body.no) hk _ hi).2
  · intro l
    refine And.intro ⟨fun _ _ _ _ => trivial, hm, hn, rfl⟩ ?_
    refine ⟨[], [], ?_⟩
    repeat' (first | (refine And.intro ?_ ?_) | (intro _) | exact rfl)
  · intro l i hi
    refine ⟨[], [], ?_⟩
    repeat' (first | (refine And.intro ?_ ?_) | (intro _) | exact rfl)
    all_goals exact decide_eq_decide.2 (by omega)
  · intro l i hi
    refine And.intro ⟨by omega, by omega⟩ ?_
    refine And.intro ⟨fun _ _ _ _ => trivial, hm⟩ ?_
    refine And.intro (fun hc => ?_) (fun hc => ?_)
    · have hc : ((getE w (bodG (allL w) i).iD 4).2 && eqC (getE w (bodG (allL w) i).iD 4).1 ⟨4, c, 0, 0, 0⟩) = true := hc
      have hk : keepB w c (bodG (allL w) i) = false := by unfold keepB; rw [hc]; rfl
      have e := filtM_no (f := fun i => bodG (allL w) i) (g := fun i => keepB w c (bodG (allL w) i)) (k := i) hk
      refine ⟨rfl, congrArg List.length e, [], [], ?_⟩
      repeat' (first | (refine And.intro ?_ ?_) | (intro _) | exact rfl)
    · have hc : ((getE w (bodG (allL w) i).iD 4).2 && eqC (getE w (bodG (allL w) i).iD 4).1 ⟨4, c, 0, 0, 0⟩) = false := hc
      have hk : keepB w c (bodG (allL w) i) = true := by unfold keepB; rw [hc]; rfl
      have e := filtM_yes (f := fun i => bodG (allL w) i) (g := fun i => keepB w c (bodG (allL w) i)) (k := i) hk
      have ea := (filtM_at (f := fun i => bodG (allL w) i) (g := fun i => keepB w c (bodG (allL w) i)) (d := Body.no) hk _ hi).1
      refine ⟨(congrArg List.length e).trans (by simp [othsL]), ?_⟩
      refine ⟨[], [], ?_⟩
      repeat' (first | (refine And.intro ?_ ?_) | (intro _) | exact rfl)
      all_goals first | exact congrArg Body.iD ea | exact congrArg Body.posX ea | exact congrArg Body.posY ea | exact congrArg Body.velX ea | exact congrArg Body.velY ea | exact congrArg Body.w ea | exact congrArg Body.h ea | exact congrArg Body.round ea | exact congrArg Body.fixed ea
  · intro l i hi
    refine And.intro (by unfold I64; omega : I64 ((i : Int) + 1)) ?_
    refine ⟨[], [], ?_⟩
    repeat' (first | (refine And.intro ?_ ?_) | (intro _) | exact rfl)
end Go.Proofs.YtjdohgcolhpegaaGreatDoor
