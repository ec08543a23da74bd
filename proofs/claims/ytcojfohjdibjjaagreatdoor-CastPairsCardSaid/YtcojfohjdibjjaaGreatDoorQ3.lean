/- wrong, Meets, Part, Before. Meets, Part, Before. -/
import Derived.Test.YtcojfohjdibjjaaGreatDoorQ2
namespace Go.Proofs.YtcojfohjdibjjaaGreatDoor
open Go.RowKit

/-- A list of bodies. -/
def rdBodies : Rd (Nat × (Nat → Body)) := ⟨.rs 9 0 fun _ => rdBody.pat.al, fun x => (x.rn, fun i => Body.of (.agg (x.rf i))), fun a => .rs 9 a.1 fun i => (a.2 i).cells, fun _ => rfl⟩
def badN (F : Nat → Body) : Nat → Nat → Bool
  | _, 0 => false
  | k, r + 1 => match !(F k).ok with | true => true | false => badN F (k + 1) r
theorem badN_step {F : Nat → Body} {k n : Nat} (h : k < n) : badN F k (n - k) = match !(F k).ok with | true => true | false => badN F (k + 1) (n - (k + 1)) := by
  rw [show n - k = (n - (k + 1)) + 1 by omega]; rfl
theorem badN_no {F : Nat → Body} : ∀ {r k : Nat}, badN F k r = false → ∀ i, k ≤ i → i < k + r → (F i).ok = true
  | 0, k, _, i, h1, h2 => by omega
  | r + 1, k, h, i, h1, h2 => by
    simp only [badN] at h
    split at h
    · cases h
    · rename_i hk
      rcases Nat.eq_or_lt_of_le h1 with rfl | h1
      · simpa using hk
      · exact badN_no h i h1 (by omega)
theorem badN_of {F : Nat → Body} : ∀ {r k : Nat}, (∀ i, k ≤ i → i < k + r → (F i).ok = true) → badN F k r = false
  | 0, k, _ => rfl
  | r + 1, k, h => by
    simp only [badN, h k (Nat.le_refl _) (by omega), Bool.not_true]
    exact badN_of fun i h1 h2 => h i (by omega) (by omega)
def wrongE (p q : Vec) (n : Nat) (F : Nat → Body) : Int := match !p.inB with
  | true => 2
  | false => match !q.inB with
    | true => 2
    | false => match badN F 0 n with
      | true => 2
      | false => match !shortB p q with
        | true => 3
        | false => 0
theorem wrongE_ok {p q : Vec} {n : Nat} {F : Nat → Body} (h : wrongE p q n F = 0) : p.In ∧ q.In ∧ (∀ i, i < n → (F i).ok = true) ∧ shortB p q = true := by
  unfold wrongE at h
  split at h
  · cases h
  · rename_i h1
    split at h
    · cases h
    · rename_i h2
      split at h
      · cases h
      · rename_i h3
        split at h
        · cases h
        · rename_i h4
          exact ⟨Vec.In.of (by simpa using h1), Vec.In.of (by simpa using h2), fun i hi => badN_no h3 i (Nat.zero_le _) (by omega), by simpa using h4⟩
theorem wrongE_of {p q : Vec} {n : Nat} {F : Nat → Body} (h1 : p.In) (h2 : q.In) (h3 : ∀ i, i < n → (F i).ok = true) (h4 : shortB p q = true) : wrongE p q n F = 0 := by
  unfold wrongE
  rw [Vec.inB_of h1, Vec.inB_of h2, badN_of fun i _ hi => h3 i (by omega), h4]
  rfl
theorem wrongE_rng (p q : Vec) (n : Nat) (F : Nat → Body) : wrongE p q n F = 0 ∨ wrongE p q n F = 2 ∨ wrongE p q n F = 3 := by
  unfold wrongE
  repeat' split
  all_goals simp
noncomputable def inContains : FnI cx := ⟨42, Tryz.call42, Tryz.f42, Tryz.func42, [], [], [], 0, by kernel_rfl⟩
noncomputable def inIndex : FnI cx := ⟨66, Tryz.call66, Tryz.f66, Tryz.func66, [], [], [2], 0, by kernel_rfl⟩
def idxCut (p q : Vec) (n : Nat) (F : Nat → Body) : Cut := ⟨Nat, fun k => k ≤ n ∧ badN F 0 n = badN F k (n - k),
  fun k => ⟨[sl 0 (.rs 9 n fun i => (F i).cells), sl 1 (.v (.func (.func 43) #[] #[])), sl 6 (.rs 9 n fun i => (F i).cells), sl 7 (.v (.int .i64 n)), sl 8 (.v (.int .i64 k))], [(0, .lay p.cells 23), (1, .lay q.cells 23)], 2, 0, [], []⟩, fun k => n - k⟩
set_option maxHeartbeats 2000000 in
set_option maxRecDepth 8000 in
theorem Wrong1_walk : ∀ a, conj ((fun _ => []) a) → evFn (C := cx) [conValid] [] 0 noHow Tryz.f43 (((rds1 rdBody)).enc a) fun v H _ => resOut ((fun b => .v (.bool (!b.ok))) a) H v := by
  intro b _
  exact rfl
noncomputable def conWrong1 : Con cx := walkCon 43 Tryz.call43 (rds1 rdBody) (fun _ => []) (fun b => .v (.bool (!b.ok))) (fun _ => noHow) [] (fun _ => rfl) follows Tryz.func43 (by kernel_rfl) Wrong1_walk
set_option maxHeartbeats 2000000 in
set_option maxRecDepth 8000 in
theorem Wrong_walk : ∀ a, conj ((fun a => [(a.2.2.1 : Int) ≤ 1000000]) a) → evFn (C := cx) [conInside, conWrong1, conShort] [inContains, inIndex] 2 ⟨[1001], [], [], 0⟩ Tryz.f19 (((rds3 rdVec rdVec rdBodies)).enc a) fun v H _ => resOut ((fun a => .v (.int .i64 (wrongE a.1 a.2.1 a.2.2.1 a.2.2.2))) a) H v := by
  intro ⟨p, q, n, F⟩ hn
  replace hn : (n : Int) ≤ 1000000 := hn
  refine And.intro (fun h1 => ?_) (fun h1 => ?_)
  rotate_left
  · have h1 : (!p.inB) = true := h1
    refine Eq.trans (a := wrongE p q n F) (b := 2) ?_ rfl
    unfold wrongE; rw [h1]
  have h1 : (!p.inB) = false := h1
  refine And.intro (fun h2 => ?_) (fun h2 => ?_)
  rotate_left
  · have h2 : (!q.inB) = true := h2
    refine Eq.trans (a := wrongE p q n F) (b := 2) ?_ rfl
    unfold wrongE; rw [h1, h2]
  have h2 : (!q.inB) = false := h2
  have ip : p.In := Vec.In.of (by simpa using h1)
  have iq : q.In := Vec.In.of (by simpa using h2)
  refine Exists.intro (idxCut p q n F) ?_
  refine And.intro ?_ ?_
  · refine ⟨(0 : Nat), [], [], trivial, ⟨Nat.zero_le _, rfl⟩, ?_⟩
    repeat' (first | (refine And.intro ?_ ?_) | (intro _) | exact rfl)
  refine fun (k : Nat) (hk : k ≤ n ∧ badN F 0 n = badN F k (n - k)) => ?_
  obtain ⟨k1, k2⟩ := hk
  refine And.intro (fun hb => ?_) (fun hb => ?_)
  · have hb : (k : Int) < n := of_decide_eq_true hb
    have e := badN_step (F := F) (k := k) (n := n) (by omega)
    refine And.intro ⟨by omega, by omega⟩ ?_
    refine And.intro (fun hc => ?_) (fun hc => ?_)
    · have hc : (!(F k).ok) = true := hc
      rw [hc] at e
      refine And.intro (fun hd => ?_) (fun hd => ?_)
      · refine Eq.trans (a := wrongE p q n F) (b := 2) ?_ rfl
        unfold wrongE; rw [h1, h2, k2, e]
      · have hd := of_decide_eq_false hd
        exact absurd (by omega) hd
    · have hc : (!(F k).ok) = false := hc
      rw [hc] at e
      refine And.intro (by unfold I64; omega : I64 ((k : Int) + 1)) ?_
      refine ⟨k + 1, [], [], (by show n - (k + 1) < n - k; omega), ⟨by omega, by rw [k2, e]⟩, ?_⟩
      repeat' (first | (refine And.intro ?_ ?_) | (intro _) | exact rfl)
  · have hb : ¬ (k : Int) < n := of_decide_eq_false hb
    have e : badN F 0 n = false := by rw [k2, show n - k = 0 by omega]; rfl
    refine And.intro ⟨ip, iq⟩ ?_
    refine And.intro (fun h4 => ?_) (fun h4 => ?_)
    · have h4 : (!shortB p q) = true := h4
      refine Eq.trans (a := wrongE p q n F) (b := 3) ?_ rfl
      unfold wrongE; rw [h1, h2, e, h4]
    · have h4 : (!shortB p q) = false := h4
      refine Eq.trans (a := wrongE p q n F) (b := 0) ?_ rfl
      unfold wrongE; rw [h1, h2, e, h4]
noncomputable def conWrong : Con cx := walkCon 19 Tryz.call19 (rds3 rdVec rdVec rdBodies) (fun a => [(a.2.2.1 : Int) ≤ 1000000]) (fun a => .v (.int .i64 (wrongE a.1 a.2.1 a.2.2.1 a.2.2.2))) (fun _ => ⟨[1001], [], [], 0⟩) [1001] (fun _ => rfl) follows Tryz.func19 (by kernel_rfl) Wrong_walk
end Go.Proofs.YtcojfohjdibjjaaGreatDoor
namespace Go.Proofs.YtcojfohjdibjjaaGreatDoor
open Go.RowKit

def oneB (b : Body) : Nat → Body := fun _ => b
def twoB (a b : Body) : Nat → Body
  | 0 => a
  | _ + 1 => b
def meetsB (b : Body) (p q : Vec) : Bool := match decide (¬ wrongE p q 1 (oneB b) = 0) with
  | true => false
  | false => (whereP b p q).2
theorem one_ok {b : Body} {p q : Vec} (h : wrongE p q 1 (oneB b) = 0) : p.In ∧ q.In ∧ b.ok = true ∧ shortB p q = true := by
  obtain ⟨h1, h2, h3, h4⟩ := wrongE_ok h
  exact ⟨h1, h2, h3 0 (by omega), h4⟩
theorem two_ok {a b : Body} {p q : Vec} (h : wrongE p q 2 (twoB a b) = 0) : p.In ∧ q.In ∧ a.ok = true ∧ b.ok = true ∧ shortB p q = true := by
  obtain ⟨h1, h2, h3, h4⟩ := wrongE_ok h
  exact ⟨h1, h2, h3 0 (by omega), h3 1 (by omega), h4⟩
theorem al9 {b : Body} : conjO (alikeCL rdBody.pat.al b.cells) := trivial
set_option maxHeartbeats 2000000 in
set_option maxRecDepth 8000 in
theorem Meets_walk : ∀ a, conj ((fun _ => []) a) → evFn (C := cx) [conWrong, conWhere] [] 0 noHow Tryz.f10 (((rds3 rdBody rdVec rdVec)).enc a) fun v H _ => resOut ((fun a => .v (.bool (meetsB a.1 a.2.1 a.2.2))) a) H v := by
  intro ⟨b, p, q⟩ _
  have one : ((1 : Nat) : Int) ≤ 1000000 := by decide
  refine And.intro ⟨one_al trivial, one⟩ ?_
  refine And.intro (fun h1 => ?_) (fun h1 => ?_)
  · have h1 : decide (¬ wrongE p q 1 (oneB b) = 0) = true := h1
    refine Eq.trans (a := meetsB b p q) ?_ rfl
    unfold meetsB; rw [h1]
  · have h1 : decide (¬ wrongE p q 1 (oneB b) = 0) = false := h1
    obtain ⟨k1, k2, k3, k4⟩ := one_ok (by simpa using h1)
    refine And.intro ⟨k3, k1, k2, k4⟩ ?_
    refine Eq.trans (a := meetsB b p q) (b := (whereP b p q).2) ?_ rfl
    unfold meetsB; rw [h1]
noncomputable def conMeets : Con cx := walkCon 10 Tryz.call10 (rds3 rdBody rdVec rdVec) (fun _ => []) (fun a => .v (.bool (meetsB a.1 a.2.1 a.2.2))) (fun _ => noHow) [] (fun _ => rfl) follows Tryz.func10 (by kernel_rfl) Meets_walk

/-- The first of n numbers for which something holds; n if there is none. -/
def firstF (f : Nat → Bool) : Nat → Nat → Nat
  | k, 0 => k
  | k, r + 1 => match f k with | true => k | false => firstF f (k + 1) r
theorem firstF_eq {f : Nat → Bool} : ∀ {r k i : Nat}, k ≤ i → i ≤ k + r → (∀ j, k ≤ j → j < i → f j = false) → (i = k + r ∨ f i = true) → firstF f k r = i
  | 0, k, i, h1, h2, _, _ => by simp only [firstF]; omega
  | r + 1, k, i, h1, h2, h3, h4 => by
    simp only [firstF]
    split
    · rename_i hk
      rcases Nat.eq_or_lt_of_le h1 with rfl | h1
      · rfl
      · rw [h3 k (Nat.le_refl _) h1] at hk; cases hk
    · rename_i hk
      rcases Nat.eq_or_lt_of_le h1 with rfl | h1
      · rcases h4 with h4 | h4
        · omega
        · rw [hk] at h4; cases h4
      · exact firstF_eq h1 (by omega) (fun j a b => h3 j (by omega) b) (h4.imp (fun h => by omega) id)
theorem firstF_le {f : Nat → Bool} : ∀ {r k : Nat}, k ≤ firstF f k r ∧ firstF f k r ≤ k + r
  | 0, k => by simp [firstF]
  | r + 1, k => by
    simp only [firstF]
    split
    · omega
    · have := firstF_le (f := f) (r := r) (k := k + 1); omega
theorem firstF_no {f : Nat → Bool} : ∀ {r k j : Nat}, k ≤ j → j < firstF f k r → f j = false
  | 0, k, j, h1, h2 => by simp only [firstF] at h2; omega
  | r + 1, k, j, h1, h2 => by
    simp only [firstF] at h2
    split at h2
    · omega
    · rename_i hk
      rcases Nat.eq_or_lt_of_le h1 with rfl | h1
      · exact hk
      · exact firstF_no h1 h2
theorem firstF_yes {f : Nat → Bool} : ∀ {r k : Nat}, firstF f k r < k + r → f (firstF f k r) = true
  | 0, k, h => by simp only [firstF] at h; omega
  | r + 1, k, h => by
    simp only [firstF] at h ⊢
    split
    · rename_i hk; exact hk
    · rename_i hk
      rw [hk] at h
      simp only at h
      exact firstF_yes (by omega)
/-- Is the place ahead of the part number i + 1? -/
def aheadB (w : Plc) (i : Nat) : Bool := decide (0 < ordP ⟨(i : Int) + 1, 0, 65536⟩ w)
theorem ahead_lt {w : Plc} (hs : 0 ≤ w.s) {i : Nat} : aheadB w i = true ↔ w.lt ((i : Int) + 1) 65536 := by
  unfold aheadB
  rw [decide_eq_true_eq, ← ordP_lt hs (by decide)]
  have := ordP_neg w ⟨(i : Int) + 1, 0, 65536⟩
  omega
theorem ahead_mono {w : Plc} (hs : 0 ≤ w.s) (hm : 0 < w.m) {i j : Nat} (h : i ≤ j) (k : aheadB w j = false) : aheadB w i = false := by
  cases hi : aheadB w i with
  | false => rfl
  | true =>
    rw [ahead_lt hs] at hi
    have : aheadB w j = true := (ahead_lt hs).2 (Plc.lt_mono hm (by decide) (by decide) hi (by omega))
    rw [k] at this; cases this
def partW (w : Plc) : Nat := firstF (aheadB w) 0 65536
def partE (b : Body) (p q : Vec) : Int × Int := match decide (¬ wrongE p q 1 (oneB b) = 0) with
  | true => (0, wrongE p q 1 (oneB b))
  | false => match !(whereP b p q).2 with
    | true => (0, 6)
    | false => (partW (whereP b p q).1, 0)
/-- What is met, lies at a proper place. -/
theorem where_pos {b : Body} {p q : Vec} (h : (whereP b p q).2 = true) : 0 < (whereP b p q).1.m ∧ 0 ≤ (whereP b p q).1.s := by
  unfold whereP at *
  split
  · rename_i h1
    rw [h1] at h
    obtain ⟨r, -⟩ := enter_yes h
    exact ⟨r.m, by have : (b.ent p q).1.s = 0 := r.s; omega⟩
  · rename_i h1
    rw [h1] at h
    split
    · exact ⟨by decide, by decide⟩
    · rename_i h2
      rw [h2] at h
      split
      · rename_i h3
        rw [h3] at h; cases h
      · rename_i h3
        obtain ⟨k1, -, k3⟩ := apart_of h3
        have : 0 ≤ segA p q := by unfold segA; have := sq_nn (q.x - p.x); have := sq_nn (q.y - p.y); omega
        exact ⟨by simp only; omega, k3⟩
theorem wi (n : Int) : IntKind.i64.wrap n = if 9223372036854775808 ≤ n % 18446744073709551616 then n % 18446744073709551616 - 18446744073709551616 else n % 18446744073709551616 := by
  unfold IntKind.wrap
  show (if (true && decide (n % 18446744073709551616 ≥ 9223372036854775808)) = true then _ else _) = _
  simp only [Bool.true_and, decide_eq_true_eq, ge_iff_le]
  rfl
theorem p1 : (2 : Int) ^ min (Int.toNat 1) IntKind.u64.bits = 2 := rfl
theorem fd2 (a : Int) : a.fdiv 2 = a / 2 := Int.fdiv_eq_ediv_of_nonneg a (by omega)
noncomputable def inSearch : FnI cx := ⟨21, Tryz.call21, Tryz.f21, Tryz.func21, [], [], [2], 0, by kernel_rfl⟩
noncomputable def inPart1 : FnI cx := ⟨22, Tryz.call22, Tryz.f22, Tryz.func22, [], [], [], 0, by kernel_rfl⟩
/-- The search: low ahead of what is sought, high behind it. -/
def seaCut (w : Plc) : Cut := ⟨Nat × Nat, fun x => x.1 ≤ x.2 ∧ x.2 ≤ 65536 ∧ (x.1 = 0 ∨ aheadB w (x.1 - 1) = false) ∧ (x.2 = 65536 ∨ aheadB w x.2 = true),
  fun x => ⟨[sl 1 (.f (.func 22) [] [.p 4 0]), sl 5 (.v (.int .i64 x.1)), sl 6 (.v (.int .i64 x.2))], [(4, .lay w.cells 49)], 5, 0, [], []⟩, fun x => x.2 - x.1⟩
set_option maxHeartbeats 2000000 in
set_option maxRecDepth 8000 in
theorem Part_walk : ∀ a, conj ((fun _ => []) a) → evFn (C := cx) [conWrong, conWhere, conOrd] [inSearch, inPart1] 2 noHow Tryz.f6 (((rds3 rdBody rdVec rdVec)).enc a) fun v H _ => resOut ((fun a => .tup [.v (.int .i64 (partE a.1 a.2.1 a.2.2).1), .v (.int .i64 (partE a.1 a.2.1 a.2.2).2)]) a) H v := by
  intro ⟨b, p, q⟩ _
  have one : ((1 : Nat) : Int) ≤ 1000000 := by decide
  refine And.intro ⟨one_al trivial, one⟩ ?_
  refine And.intro (fun h1 => ?_) (fun h1 => ?_)
  · have h1 : decide (¬ wrongE p q 1 (oneB b) = 0) = true := h1
    have he : partE b p q = (0, wrongE p q 1 (oneB b)) := by unfold partE; rw [h1]
    simp only [he]
    repeat' (first | (refine And.intro ?_ ?_) | (intro _) | exact rfl)
  have h1 : decide (¬ wrongE p q 1 (oneB b) = 0) = false := h1
  obtain ⟨k1, k2, k3, k4⟩ := one_ok (by simpa using h1)
  refine And.intro ⟨k3, k1, k2, k4⟩ ?_
  refine And.intro (fun h2 => ?_) (fun h2 => ?_)
  · have h2 : (!(whereP b p q).2) = true := h2
    have he : partE b p q = (0, 6) := by unfold partE; rw [h1, h2]
    simp only [he]
    repeat' (first | (refine And.intro ?_ ?_) | (intro _) | exact rfl)
  have h2 : (!(whereP b p q).2) = false := h2
  obtain ⟨hm, hs⟩ := where_pos (by simpa using h2)
  have hi := where_in k3 k1 k2 k4
  generalize hw : (whereP b p q).1 = w at *
  have he : partE b p q = ((partW w : Int), 0) := by unfold partE; rw [h1, h2, hw]
  simp only [he]
  refine Exists.intro (seaCut w) ?_
  refine And.intro ?_ ?_
  · refine ⟨((0 : Nat), (65536 : Nat)), [], [], trivial, ⟨(by decide : (0 : Nat) ≤ 65536), Nat.le_refl 65536, .inl rfl, .inl rfl⟩, ?_⟩
    repeat' (first | (refine And.intro ?_ ?_) | (intro _) | exact rfl)
    all_goals first | exact congrArg Plc.n hw.symm | exact congrArg Plc.s hw.symm | exact congrArg Plc.m hw.symm
  refine fun (x : Nat × Nat) (hx : x.1 ≤ x.2 ∧ x.2 ≤ 65536 ∧ (x.1 = 0 ∨ aheadB w (x.1 - 1) = false) ∧ (x.2 = 65536 ∨ aheadB w x.2 = true)) => ?_
  obtain ⟨i, j⟩ := x
  obtain ⟨x1, x2, x3, x4⟩ : i ≤ j ∧ j ≤ 65536 ∧ (i = 0 ∨ aheadB w (i - 1) = false) ∧ (j = 65536 ∨ aheadB w j = true) := hx
  refine And.intro (fun hb => ?_) (fun hb => ?_)
  · have hb : (i : Int) < j := of_decide_eq_true hb
    refine And.intro (by unfold I64; omega : I64 ((i : Int) + j)) ?_
    obtain ⟨h, hd⟩ : ∃ h, h = (i + j) / 2 := ⟨_, rfl⟩
    have hh : IntKind.i64.wrap ((IntKind.u64.wrap ((i : Int) + j)).fdiv (2 ^ min (Int.toNat 1) IntKind.u64.bits)) = (h : Int) := by
      rw [wu, p1, fd2, wi]
      split <;> omega
    have hi1 : Plc.In ⟨(h : Int) + 1, 0, 65536⟩ := plcIn (by omega) (by omega)
    have h64 : I64 ((h : Int) + 1) := by unfold I64; omega
    refine And.intro (show I64 (_ + 1) by rw [hh]; exact h64) ?_
    refine And.intro ⟨show Plc.In ⟨_ + 1, 0, 65536⟩ by rw [hh]; exact hi1, hi⟩ ?_
    refine And.intro (fun hc => ?_) (fun hc => ?_)
    · have hc : (!decide (0 < ordP ⟨IntKind.i64.wrap ((IntKind.u64.wrap ((i : Int) + j)).fdiv (2 ^ min (Int.toNat 1) IntKind.u64.bits)) + 1, 0, 65536⟩ w)) = true := hc
      rw [hh] at hc
      have hc : aheadB w h = false := by simpa [aheadB] using hc
      refine And.intro (show I64 (_ + 1) by rw [hh]; exact h64) ?_
      refine ⟨(h + 1, j), [], [], (by show j - (h + 1) < j - i; omega), ⟨(by omega : h + 1 ≤ j), x2, .inr hc, x4⟩, ?_⟩
      repeat' (first | (refine And.intro ?_ ?_) | (intro _) | exact rfl)
      all_goals (show ((h + 1 : Nat) : Int) = _ + 1; rw [hh]; rfl)
    · have hc : (!decide (0 < ordP ⟨IntKind.i64.wrap ((IntKind.u64.wrap ((i : Int) + j)).fdiv (2 ^ min (Int.toNat 1) IntKind.u64.bits)) + 1, 0, 65536⟩ w)) = false := hc
      rw [hh] at hc
      have hc : aheadB w h = true := by simpa [aheadB] using hc
      refine ⟨(i, h), [], [], (by show h - i < j - i; omega), ⟨(by omega : i ≤ h), (by omega : h ≤ 65536), x3, .inr hc⟩, ?_⟩
      repeat' (first | (refine And.intro ?_ ?_) | (intro _) | exact rfl)
      all_goals exact hh.symm
  · have hb : ¬ (i : Int) < j := of_decide_eq_false hb
    have e : partW w = i := firstF_eq (Nat.zero_le _) (by omega) (fun k _ hk => by
      rcases x3 with x3 | x3
      · omega
      · exact ahead_mono hs hm (by omega) x3) (x4.imp (fun h => by omega) (fun h => by rw [show i = j by omega]; exact h))
    rw [e]
    repeat' (first | (refine And.intro ?_ ?_) | (intro _) | exact rfl)
noncomputable def conPart : Con cx := walkCon 6 Tryz.call6 (rds3 rdBody rdVec rdVec) (fun _ => []) (fun a => .tup [.v (.int .i64 (partE a.1 a.2.1 a.2.2).1), .v (.int .i64 (partE a.1 a.2.1 a.2.2).2)]) (fun _ => noHow) [] (fun _ => rfl) follows Tryz.func6 (by kernel_rfl) Part_walk
end Go.Proofs.YtcojfohjdibjjaaGreatDoor
