/- store: ContainsFunc, Right, Valid. store: place, find, Get, Entity. store: find, Get, Entity. store: Entity; interest: comp, point, owns. store: Clone, own, Entity. interest: open. interest: Own. -/
import Derived.Test.YtjdohgcolhpegaaGreatDoorM1
import Derived.Test.YtjdohgcolhpegaaGreatDoorM0
namespace Go.Proofs.YtjdohgcolhpegaaGreatDoor
open Go.RowKit

/-- A list of components that Go can have. -/
def Cms.Sm (l : Cms) : Prop := (l.n : Int) ≤ bigN ∧ ∀ i, i < l.n → 0 ≤ (l.c i).kind ∧ (l.c i).kind ≤ 255
def Ens.Sm (l : Ens) : Prop := (l.n : Int) ≤ bigN ∧ ∀ i, i < l.n → (l.e i).l.Sm
def Cms.inc (l : Cms) : Bool := !unsG (fun i => (l.c i).kind) 1 (l.n - 1)
def Ens.inc (l : Ens) : Bool := !unsG (fun i => (l.e i).iD) 1 (l.n - 1)
set_option maxHeartbeats 2000000 in
set_option maxRecDepth 8000 in
theorem Right1_walk : ∀ a, conj ((fun a => [0 ≤ a.kind ∧ a.kind ≤ 255]) a) → evFn (C := cx) [conFits] [] 0 noHow Tryz.f81 ((rds1 rdComp).enc a) fun v H _ => resOut ((fun a => .v (.bool (!a.fits))) a) H v := by
  intro c hk
  refine And.intro hk ?_
  exact rfl
noncomputable def conRight1 : Con cx := walkCon 81 Tryz.call81 (rds1 rdComp) (fun a => [0 ≤ a.kind ∧ a.kind ≤ 255]) (fun a => .v (.bool (!a.fits))) (fun _ => noHow) [] (fun _ => rfl) follows Tryz.func81 (by kernel_rfl) Right1_walk
noncomputable def inHasC : FnI cx := ⟨108, Tryz.call108, Tryz.f108, Tryz.func108, [], [], [2], 0, by kernel_rfl⟩
def idxHasC (l : Cms) : Cut := ⟨Nat, fun k => k ≤ l.n ∧ anyN (fun i => !(l.c i).fits) 0 l.n = anyN (fun i => !(l.c i).fits) k (l.n - k),
  fun k => ⟨[sl 0 l.sv, sl 1 (.v (.func (.func 81) #[] #[])), sl 7 (i64 l.n), sl 8 (i64 k)], [], 0, 0, [], []⟩, fun k => l.n - k⟩
set_option maxHeartbeats 2000000 in
set_option maxRecDepth 8000 in
theorem HasC_walk : ∀ a, conj ((fun a => [a.1.Sm, a.2 = (.v (.func (.func 81) #[] #[]))]) a) → evFn (C := cx) [conRight1] [inHasC] 1 noHow Tryz.f80 ((rds2 rdCms rdX).enc a) fun v H _ => resOut ((fun a => .v (.bool (anyN (fun i => !(a.1.c i).fits) 0 a.1.n))) a) H v := by
  intro ⟨l, x⟩ ⟨hn, hx⟩
  replace hx : x = .v (.func (.func 81) #[] #[]) := hx
  subst hx
  replace hn : l.Sm := hn
  have hm : (l.n : Int) ≤ 9223372036854775807 := hn.1
  refine Exists.intro (idxHasC l) ?_
  refine And.intro ?_ ?_
  · refine ⟨(0 : Nat), [], [], trivial, ⟨Nat.zero_le _, rfl⟩, ?_⟩
    repeat' (first | (refine And.intro ?_ ?_) | (intro _) | exact rfl)
  refine fun (k : Nat) (hk : k ≤ l.n ∧ anyN (fun i => !(l.c i).fits) 0 l.n = anyN (fun i => !(l.c i).fits) k (l.n - k)) => ?_
  obtain ⟨k1, k2⟩ := hk
  refine And.intro (fun hb => ?_) (fun hb => ?_)
  · have hb : (k : Int) < l.n := of_decide_eq_true hb
    have e := anyN_step (g := (fun i => !(l.c i).fits)) (k := k) (n := l.n) (by omega)
    refine And.intro ⟨by omega, by omega⟩ ?_
    refine And.intro (hn.2 k (by omega)) ?_
    refine And.intro (fun hc => ?_) (fun hc => ?_)
    · have hc : (!(l.c k).fits) = true := hc
      simp only [hc] at e
      refine Eq.trans (a := anyN (fun i => !(l.c i).fits) 0 l.n) (b := decide (0 ≤ (k : Int))) ?_ rfl
      rw [k2, e, decide_eq_true (by omega)]
    · have hc : (!(l.c k).fits) = false := hc
      simp only [hc] at e
      refine And.intro (by unfold I64; omega : I64 ((k : Int) + 1)) ?_
      refine ⟨k + 1, [], [], (by show l.n - (k + 1) < l.n - k; omega), ⟨by omega, by rw [k2, e]⟩, ?_⟩
      repeat' (first | (refine And.intro ?_ ?_) | (intro _) | exact rfl)
  · have hb : ¬ (k : Int) < l.n := of_decide_eq_false hb
    have e : anyN (fun i => !(l.c i).fits) 0 l.n = false := by rw [k2, show l.n - k = 0 by omega]; rfl
    exact e
noncomputable def conHasC : Con cx := walkCon 80 Tryz.call80 (rds2 rdCms rdX) (fun a => [a.1.Sm, a.2 = (.v (.func (.func 81) #[] #[]))]) (fun a => .v (.bool (anyN (fun i => !(a.1.c i).fits) 0 a.1.n))) (fun _ => noHow) [] (fun _ => rfl) follows Tryz.func80 (by kernel_rfl) HasC_walk
def Ent.right (e : Ent) : Bool := decide (1 ≤ e.iD) && decide (e.iD ≤ 65536) && e.l.inc && !anyN (fun i => !(e.l.c i).fits) 0 e.l.n
set_option maxHeartbeats 2000000 in
set_option maxRecDepth 8000 in
theorem Right_walk : ∀ a, conj ((fun a => [a.l.Sm]) a) → evFn (C := cx) [conRisC, conHasC] [] 0 noHow Tryz.f49 ((rds1 rdEnt).enc a) fun v H _ => resOut ((fun a => .v (.bool a.right)) a) H v := by
  intro a hm
  replace hm : a.l.Sm := hm
  refine And.intro (fun _ => ⟨fun _ _ => trivial, hm.1, rfl⟩) ?_
  refine And.intro (fun _ => ⟨fun _ _ => trivial, hm, rfl⟩) ?_
  exact rfl
noncomputable def conRight : Con cx := walkCon 49 Tryz.call49 (rds1 rdEnt) (fun a => [a.l.Sm]) (fun a => .v (.bool a.right)) (fun _ => noHow) [] (fun _ => rfl) follows Tryz.func49 (by kernel_rfl) Right_walk
set_option maxHeartbeats 2000000 in
set_option maxRecDepth 8000 in
theorem Valid1_walk : ∀ a, conj ((fun a => [a.l.Sm]) a) → evFn (C := cx) [conRight] [] 0 noHow Tryz.f48 ((rds1 rdEnt).enc a) fun v H _ => resOut ((fun a => .v (.bool (!a.right))) a) H v := by
  intro a hm
  refine And.intro ⟨fun _ _ => trivial, hm⟩ ?_
  exact rfl
noncomputable def conValid1 : Con cx := walkCon 48 Tryz.call48 (rds1 rdEnt) (fun a => [a.l.Sm]) (fun a => .v (.bool (!a.right))) (fun _ => noHow) [] (fun _ => rfl) follows Tryz.func48 (by kernel_rfl) Valid1_walk
noncomputable def inHasE : FnI cx := ⟨78, Tryz.call78, Tryz.f78, Tryz.func78, [], [], [2], 0, by kernel_rfl⟩
def idxHasE (l : Ens) : Cut := ⟨Nat, fun k => k ≤ l.n ∧ anyN (fun i => !(l.e i).right) 0 l.n = anyN (fun i => !(l.e i).right) k (l.n - k),
  fun k => ⟨[sl 0 l.sv, sl 1 (.v (.func (.func 48) #[] #[])), sl 7 (i64 l.n), sl 8 (i64 k)], [], 0, 0, [], []⟩, fun k => l.n - k⟩
set_option maxHeartbeats 2000000 in
set_option maxRecDepth 8000 in
theorem HasE_walk : ∀ a, conj ((fun a => [a.1.Sm, a.2 = (.v (.func (.func 48) #[] #[]))]) a) → evFn (C := cx) [conValid1] [inHasE] 1 noHow Tryz.f47 ((rds2 rdEns rdX).enc a) fun v H _ => resOut ((fun a => .v (.bool (anyN (fun i => !(a.1.e i).right) 0 a.1.n))) a) H v := by
  intro ⟨l, x⟩ ⟨hn, hx⟩
  replace hx : x = .v (.func (.func 48) #[] #[]) := hx
  subst hx
  replace hn : l.Sm := hn
  have hm : (l.n : Int) ≤ 9223372036854775807 := hn.1
  refine Exists.intro (idxHasE l) ?_
  refine And.intro ?_ ?_
  · refine ⟨(0 : Nat), [], [], trivial, ⟨Nat.zero_le _, rfl⟩, ?_⟩
    repeat' (first | (refine And.intro ?_ ?_) | (intro _) | exact rfl)
  refine fun (k : Nat) (hk : k ≤ l.n ∧ anyN (fun i => !(l.e i).right) 0 l.n = anyN (fun i => !(l.e i).right) k (l.n - k)) => ?_
  obtain ⟨k1, k2⟩ := hk
  refine And.intro (fun hb => ?_) (fun hb => ?_)
  · have hb : (k : Int) < l.n := of_decide_eq_true hb
    have e := anyN_step (g := (fun i => !(l.e i).right)) (k := k) (n := l.n) (by omega)
    refine And.intro ⟨by omega, by omega⟩ ?_
    refine And.intro (⟨fun _ _ => trivial, hn.2 k (by omega)⟩) ?_
    refine And.intro (fun hc => ?_) (fun hc => ?_)
    · have hc : (!(l.e k).right) = true := hc
      simp only [hc] at e
      refine Eq.trans (a := anyN (fun i => !(l.e i).right) 0 l.n) (b := decide (0 ≤ (k : Int))) ?_ rfl
      rw [k2, e, decide_eq_true (by omega)]
    · have hc : (!(l.e k).right) = false := hc
      simp only [hc] at e
      refine And.intro (by unfold I64; omega : I64 ((k : Int) + 1)) ?_
      refine ⟨k + 1, [], [], (by show l.n - (k + 1) < l.n - k; omega), ⟨by omega, by rw [k2, e]⟩, ?_⟩
      repeat' (first | (refine And.intro ?_ ?_) | (intro _) | exact rfl)
  · have hb : ¬ (k : Int) < l.n := of_decide_eq_false hb
    have e : anyN (fun i => !(l.e i).right) 0 l.n = false := by rw [k2, show l.n - k = 0 by omega]; rfl
    exact e
noncomputable def conHasE : Con cx := walkCon 47 Tryz.call47 (rds2 rdEns rdX) (fun a => [a.1.Sm, a.2 = (.v (.func (.func 48) #[] #[]))]) (fun a => .v (.bool (anyN (fun i => !(a.1.e i).right) 0 a.1.n))) (fun _ => noHow) [] (fun _ => rfl) follows Tryz.func47 (by kernel_rfl) HasE_walk
def Wor.valid (w : Wor) : Bool := decide (0 ≤ w.tick) && decide (w.tick ≤ 1073741824) && decide ((w.l.n : Int) ≤ 64) && w.l.inc && !anyN (fun i => !(w.l.e i).right) 0 w.l.n
set_option maxHeartbeats 2000000 in
set_option maxRecDepth 8000 in
theorem WValid_walk : ∀ a, conj ((fun a => [a.l.Sm]) a) → evFn (C := cx) [conRisE, conHasE] [] 0 noHow Tryz.f16 ((rds1 rdWor).enc a) fun v H _ => resOut ((fun a => .v (.bool a.valid)) a) H v := by
  intro a hm
  replace hm : a.l.Sm := hm
  refine And.intro (fun _ => ⟨fun _ _ _ _ => trivial, hm.1, rfl⟩) ?_
  refine And.intro (fun _ => ⟨fun _ _ _ _ => trivial, hm, rfl⟩) ?_
  exact rfl
noncomputable def conWValid : Con cx := walkCon 16 Tryz.call16 (rds1 rdWor) (fun a => [a.l.Sm]) (fun a => .v (.bool a.valid)) (fun _ => noHow) [] (fun _ => rfl) follows Tryz.func16 (by kernel_rfl) WValid_walk
end Go.Proofs.YtjdohgcolhpegaaGreatDoor
namespace Go.Proofs.YtjdohgcolhpegaaGreatDoor
open Go.RowKit

def halfN : Int := 4611686018427387903
/-- The first of r places from the k-th on whose key is not less than q. -/
def lbN (key : Nat → Int) (q : Int) : Nat → Nat → Nat
  | k, 0 => k
  | k, r + 1 => match decide (key k < q) with | true => lbN key q (k + 1) r | false => k
theorem lbN_eq {key : Nat → Int} {q : Int} {i : Nat} : ∀ {r k : Nat}, k ≤ i → i ≤ k + r → (∀ j, k ≤ j → j < i → key j < q) → (i = k + r ∨ ¬ key i < q) → lbN key q k r = i
  | 0, k, h1, h2, _, _ => by show k = i; omega
  | r + 1, k, h1, h2, h3, h4 => by
    rcases Nat.eq_or_lt_of_le h1 with rfl | h1
    · rcases h4 with h4 | h4
      · omega
      · simp only [lbN, decide_eq_false h4]
    · simp only [lbN, decide_eq_true (h3 k (Nat.le_refl _) h1)]
      exact lbN_eq (by omega) (by omega) (fun j h5 h6 => h3 j (by omega) h6) (by rcases h4 with h4 | h4; · left; omega
                                                                                 · right; exact h4)
/-- Where a key is, or would be; whether it is there. -/
def lowB (key : Nat → Int) (n : Nat) (q : Int) : Nat := lbN key q 0 n
def hitB (key : Nat → Int) (n : Nat) (q : Int) : Bool := decide (((lowB key n q : Nat) : Int) < n) && decide (key (lowB key n q) = q)
theorem lowB_eq {key : Nat → Int} {q : Int} {n i : Nat} (h1 : i ≤ n) (h2 : ∀ j, j < i → key j < q) (h3 : ∀ j, i ≤ j → j < n → q ≤ key j) : lowB key n q = i :=
  lbN_eq (Nat.zero_le _) (by omega) (fun j _ h => h2 j h) (by
    by_cases e : i = n
    · left; omega
    · right; have := h3 i (Nat.le_refl _) (by omega); omega)
theorem lbN_le {key : Nat → Int} {q : Int} : ∀ {r k : Nat}, k ≤ lbN key q k r ∧ lbN key q k r ≤ k + r
  | 0, k => ⟨Nat.le_refl _, Nat.le_refl _⟩
  | r + 1, k => by
    simp only [lbN]
    split
    · have := lbN_le (key := key) (q := q) (r := r) (k := k + 1); omega
    · omega
theorem lowB_le {key : Nat → Int} {q : Int} {n : Nat} : lowB key n q ≤ n := by
  have := lbN_le (key := key) (q := q) (r := n) (k := 0)
  unfold lowB; omega
theorem hitB_iff {key : Nat → Int} {q : Int} {n : Nat} : hitB key n q = true ↔ lowB key n q < n ∧ key (lowB key n q) = q := by
  simp only [hitB, Bool.and_eq_true, decide_eq_true_eq]
  omega
theorem p1' : (2 : Int) ^ min (Int.toNat 1) IntKind.u64.bits = 2 := rfl
theorem wi' {n : Int} (h : -9223372036854775808 ≤ n ∧ n ≤ 9223372036854775807) : IntKind.i64.wrap n = n := InR.wrap h
theorem half (i j : Nat) (h : (i : Int) + j ≤ 9223372036854775807) : IntKind.i64.wrap ((IntKind.u64.wrap ((i : Int) + j)).fdiv (2 ^ min (Int.toNat 1) IntKind.u64.bits)) = (((i + j) / 2 : Nat) : Int) := by
  rw [wu, p1', Int.emod_eq_of_lt (by omega) (by omega), Int.fdiv_eq_ediv_of_nonneg _ (by omega), wi' (by omega)]
  omega
noncomputable def conNaN8 : Con cx := walkCon (Γ := []) (Fs := []) (d := 0) 107 Tryz.call107 (rds1 (rdI .u8)) (fun _ => []) (fun n => .bl false) (fun _ => noHow) [] (fun _ => rfl) follows Tryz.func107 (by kernel_rfl)
  fun n _ => by show (_ : Bool) = _; simp
set_option maxHeartbeats 2000000 in
set_option maxRecDepth 8000 in
theorem Cmp8_walk : ∀ a, conj ((fun _ => []) a) → evFn (C := cx) [conNaN8] [] 0 noHow Tryz.f77 (((rds2 (rdI .u8) (rdI .u8))).enc a) fun v H _ => resOut ((fun a => .v (.int .i64 (cmpI a.1 a.2))) a) H v := by
  intro ⟨x, y⟩ _
  repeat' (first | (refine And.intro ?_ ?_) | (intro _))
  all_goals (simp only [rds1, rds2, rds3, rdI, hdS, tlS, SV.iv, constSV, decide_eq_true_eq, decide_eq_false_iff_not] at *)
  all_goals (refine Eq.trans (a := cmpI x y) ?_ rfl; unfold cmpI; split <;> (try split) <;> first | rfl | omega)
noncomputable def conCmp8 : Con cx := walkCon 77 Tryz.call77 ((rds2 (rdI .u8) (rdI .u8))) (fun _ => []) (fun a => .v (.int .i64 (cmpI a.1 a.2))) (fun _ => noHow) [] (fun _ => rfl) follows Tryz.func77 (by kernel_rfl) Cmp8_walk
theorem cmpI_lts {a b : Int} (h : cmpI a b < 0) : a < b := by unfold cmpI at h; split at h <;> (try split at h) <;> omega
theorem cmpI_ges {a b : Int} (h : ¬ cmpI a b < 0) : b ≤ a := by unfold cmpI at h; split at h <;> (try split at h) <;> omega
theorem cmpI_eqs {a b : Int} : cmpI a b = 0 ↔ a = b := by unfold cmpI; split <;> (try split) <;> omega
set_option maxHeartbeats 2000000 in
set_option maxRecDepth 8000 in
theorem KeyC_walk : ∀ a, conj ((fun a => [a.2.2 = .rp [.v (.func (.func 44) #[] #[])] 0]) a) → evFn (C := cx) [conKind, conCmp8] [] 0 noHow Tryz.f76 ((rds3 rdComp (rdI .u8) rdX).enc a) fun v H _ => resOut ((fun a => .v (.int .i64 (cmpI a.1.kind a.2.1))) a) H v := by
  intro ⟨c, q, x⟩ hx
  replace hx : x = .rp [.v (.func (.func 44) #[] #[])] 0 := hx
  subst hx
  exact rfl
noncomputable def conKeyC : Con cx := walkCon 76 Tryz.call76 (rds3 rdComp (rdI .u8) rdX) (fun a => [a.2.2 = .rp [.v (.func (.func 44) #[] #[])] 0]) (fun a => .v (.int .i64 (cmpI a.1.kind a.2.1))) (fun _ => noHow) [] (fun _ => rfl) follows Tryz.func76 (by kernel_rfl) KeyC_walk
def bsC (l : Cms) (q : Int) : Cut := ⟨Nat × Nat, fun x => x.1 ≤ x.2 ∧ x.2 ≤ l.n ∧ (∀ t, t < x.1 → (fun i => (l.c i).kind) t < q) ∧ (∀ t, x.2 ≤ t → t < l.n → q ≤ (fun i => (l.c i).kind) t),
  fun x => ⟨[sl 0 l.sv, sl 1 (.v (.int .u8 q)), sl 2 (.f (.func 76) [] [.rp [.v (.func (.func 44) #[] #[])] 0]), sl 8 (i64 l.n), sl 9 (i64 x.1), sl 10 (i64 x.2)], [], 0, 0, [], []⟩, fun x => x.2 - x.1⟩
set_option maxHeartbeats 2000000 in
set_option maxRecDepth 8000 in
theorem BsC_walk : ∀ a, conj ((fun a => [(a.1.n : Int) ≤ halfN, Inc (fun i => (a.1.c i).kind) a.1.n, a.2.2 = (.f (.func 76) [] [.rp [.v (.func (.func 44) #[] #[])] 0])]) a) → evFn (C := cx) [conKeyC] [] 0 ⟨[], [], [3], 0⟩ Tryz.f75 ((rds3 rdCms (rdI .u8) rdX).enc a) fun v H _ => resOut ((fun a => .tup [i64 (lowB (fun i => (a.1.c i).kind) a.1.n a.2.1), .v (.bool (hitB (fun i => (a.1.c i).kind) a.1.n a.2.1))]) a) H v := by
  intro ⟨l, q, x⟩ ⟨hn, hs, hx⟩
  replace hx : x = (.f (.func 76) [] [.rp [.v (.func (.func 44) #[] #[])] 0]) := hx
  replace hn : (l.n : Int) ≤ 4611686018427387903 := hn
  replace hs : Inc (fun i => (l.c i).kind) l.n := hs
  subst hx
  refine Exists.intro (bsC l q) ?_
  refine And.intro ?_ ?_
  · refine ⟨((0 : Nat), l.n), [], [], trivial, ⟨Nat.zero_le _, Nat.le_refl _, fun t h => absurd h (Nat.not_lt_zero _), fun t h1 h2 => absurd h2 (Nat.not_lt.2 h1)⟩, ?_⟩
    repeat' (first | (refine And.intro ?_ ?_) | (intro _) | exact rfl)
  refine fun (x : Nat × Nat) (hx : x.1 ≤ x.2 ∧ x.2 ≤ l.n ∧ (∀ t, t < x.1 → (fun i => (l.c i).kind) t < q) ∧ (∀ t, x.2 ≤ t → t < l.n → q ≤ (fun i => (l.c i).kind) t)) => ?_
  obtain ⟨i, j⟩ := x
  obtain ⟨x1, x2, x3, x4⟩ : i ≤ j ∧ j ≤ l.n ∧ (∀ t, t < i → (fun i => (l.c i).kind) t < q) ∧ (∀ t, j ≤ t → t < l.n → q ≤ (fun i => (l.c i).kind) t) := hx
  refine And.intro (fun hb => ?_) (fun hb => ?_)
  · have hb : (i : Int) < j := of_decide_eq_true hb
    refine And.intro (by unfold I64; omega : I64 ((i : Int) + j)) ?_
    have hh := half i j (by omega)
    obtain ⟨h, hd⟩ : ∃ h, h = (i + j) / 2 := ⟨_, rfl⟩
    rw [← hd] at hh
    refine And.intro (show 0 ≤ _ ∧ _ < ((l.n : Nat) : Int) by rw [hh]; omega) ?_
    refine And.intro rfl ?_
    refine And.intro (fun hc => ?_) (fun hc => ?_)
    · have hc : decide (cmpI ((fun i => (l.c i).kind) (IntKind.i64.wrap ((IntKind.u64.wrap ((i : Int) + j)).fdiv (2 ^ min (Int.toNat 1) IntKind.u64.bits))).toNat) q < 0) = true := hc
      rw [hh] at hc
      have hc : (fun i => (l.c i).kind) h < q := cmpI_lts (of_decide_eq_true hc)
      have h64 : I64 ((h : Int) + 1) := by unfold I64; omega
      refine And.intro (show I64 (_ + 1) by rw [hh]; exact h64) ?_
      refine ⟨(h + 1, j), [], [], (by show j - (h + 1) < j - i; omega), ⟨(by omega : h + 1 ≤ j), x2, fun t ht => ?_, x4⟩, ?_⟩
      · rcases Nat.eq_or_lt_of_le (Nat.le_of_lt_succ ht) with rfl | ht
        · exact hc
        · exact Int.lt_trans (hs t h ht (by omega)) hc
      repeat' (first | (refine And.intro ?_ ?_) | (intro _) | exact rfl)
      all_goals (show ((h + 1 : Nat) : Int) = _ + 1; rw [hh]; rfl)
    · have hc : decide (cmpI ((fun i => (l.c i).kind) (IntKind.i64.wrap ((IntKind.u64.wrap ((i : Int) + j)).fdiv (2 ^ min (Int.toNat 1) IntKind.u64.bits))).toNat) q < 0) = false := hc
      rw [hh] at hc
      have hc : q ≤ (fun i => (l.c i).kind) h := cmpI_ges (of_decide_eq_false hc)
      refine ⟨(i, h), [], [], (by show h - i < j - i; omega), ⟨(by omega : i ≤ h), (by omega : h ≤ l.n), x3, fun t h1 h2 => ?_⟩, ?_⟩
      · rcases Nat.eq_or_lt_of_le h1 with rfl | h1
        · exact hc
        · exact Int.le_trans hc (Int.le_of_lt (hs h t h1 h2))
      repeat' (first | (refine And.intro ?_ ?_) | (intro _) | exact rfl)
      all_goals exact hh.symm
  · have hb : ¬ (i : Int) < j := of_decide_eq_false hb
    have e : lowB (fun i => (l.c i).kind) l.n q = i := lowB_eq (by omega) x3 (fun t h1 h2 => x4 t (by omega) h2)
    refine And.intro (fun hc => ?_) ?_
    · have hc : (i : Int) < l.n := of_decide_eq_true hc
      exact ⟨by omega, hc⟩
    refine And.intro (fun hc => ?_) ?_
    · exact rfl
    refine And.intro (congrArg (fun k : Nat => (k : Int)) e) ?_
    refine Eq.trans (a := hitB (fun i => (l.c i).kind) l.n q) (b := decide ((i : Int) < l.n) && decide (cmpI ((fun i => (l.c i).kind) i) q = 0)) ?_ rfl
    unfold hitB
    rw [e]
    congr 1
    exact decide_eq_decide.2 (cmpI_eqs (a := (fun i => (l.c i).kind) i) (b := q)).symm
noncomputable def conBsC : Con cx := walkCon 75 Tryz.call75 (rds3 rdCms (rdI .u8) rdX) (fun a => [(a.1.n : Int) ≤ halfN, Inc (fun i => (a.1.c i).kind) a.1.n, a.2.2 = (.f (.func 76) [] [.rp [.v (.func (.func 44) #[] #[])] 0])]) (fun a => .tup [i64 (lowB (fun i => (a.1.c i).kind) a.1.n a.2.1), .v (.bool (hitB (fun i => (a.1.c i).kind) a.1.n a.2.1))]) (fun _ => ⟨[], [], [3], 0⟩) [] (fun _ => rfl) follows Tryz.func75 (by kernel_rfl) BsC_walk
set_option maxHeartbeats 2000000 in
set_option maxRecDepth 8000 in
theorem PlC_walk : ∀ a, conj ((fun a => [(a.1.n : Int) ≤ halfN, Inc (fun i => (a.1.c i).kind) a.1.n, a.2.2 = (.v (.func (.func 44) #[] #[]))]) a) → evFn (C := cx) [conBsC] [] 0 noHow Tryz.f43 ((rds3 rdCms (rdI .u8) rdX).enc a) fun v H _ => resOut ((fun a => .tup [i64 (lowB (fun i => (a.1.c i).kind) a.1.n a.2.1), .v (.bool (hitB (fun i => (a.1.c i).kind) a.1.n a.2.1))]) a) H v := by
  intro ⟨l, q, x⟩ ⟨hn, hs, hx⟩
  replace hx : x = .v (.func (.func 44) #[] #[]) := hx
  subst hx
  refine And.intro ⟨fun _ _ => trivial, hn, hs, rfl⟩ ?_
  repeat' (first | (refine And.intro ?_ ?_) | (intro _) | exact rfl)
noncomputable def conPlC : Con cx := walkCon 43 Tryz.call43 (rds3 rdCms (rdI .u8) rdX) (fun a => [(a.1.n : Int) ≤ halfN, Inc (fun i => (a.1.c i).kind) a.1.n, a.2.2 = (.v (.func (.func 44) #[] #[]))]) (fun a => .tup [i64 (lowB (fun i => (a.1.c i).kind) a.1.n a.2.1), .v (.bool (hitB (fun i => (a.1.c i).kind) a.1.n a.2.1))]) (fun _ => noHow) [] (fun _ => rfl) follows Tryz.func43 (by kernel_rfl) PlC_walk
set_option maxHeartbeats 2000000 in
set_option maxRecDepth 8000 in
theorem KeyE_walk : ∀ a, conj ((fun a => [a.2.2 = .rp [.v (.func (.func 46) #[] #[])] 0]) a) → evFn (C := cx) [conId, conCmp] [] 0 noHow Tryz.f106 ((rds3 rdEnt (rdI .i64) rdX).enc a) fun v H _ => resOut ((fun a => .v (.int .i64 (cmpI a.1.iD a.2.1))) a) H v := by
  intro ⟨c, q, x⟩ hx
  replace hx : x = .rp [.v (.func (.func 46) #[] #[])] 0 := hx
  subst hx
  refine And.intro (fun _ _ => trivial) ?_
  exact rfl
noncomputable def conKeyE : Con cx := walkCon 106 Tryz.call106 (rds3 rdEnt (rdI .i64) rdX) (fun a => [a.2.2 = .rp [.v (.func (.func 46) #[] #[])] 0]) (fun a => .v (.int .i64 (cmpI a.1.iD a.2.1))) (fun _ => noHow) [] (fun _ => rfl) follows Tryz.func106 (by kernel_rfl) KeyE_walk
def bsE (l : Ens) (q : Int) : Cut := ⟨Nat × Nat, fun x => x.1 ≤ x.2 ∧ x.2 ≤ l.n ∧ (∀ t, t < x.1 → (fun i => (l.e i).iD) t < q) ∧ (∀ t, x.2 ≤ t → t < l.n → q ≤ (fun i => (l.e i).iD) t),
  fun x => ⟨[sl 0 l.sv, sl 1 (.v (.int .i64 q)), sl 2 (.f (.func 106) [] [.rp [.v (.func (.func 46) #[] #[])] 0]), sl 8 (i64 l.n), sl 9 (i64 x.1), sl 10 (i64 x.2)], [], 0, 0, [], []⟩, fun x => x.2 - x.1⟩
set_option maxHeartbeats 2000000 in
set_option maxRecDepth 8000 in
theorem BsE_walk : ∀ a, conj ((fun a => [(a.1.n : Int) ≤ halfN, Inc (fun i => (a.1.e i).iD) a.1.n, a.2.2 = (.f (.func 106) [] [.rp [.v (.func (.func 46) #[] #[])] 0])]) a) → evFn (C := cx) [conKeyE] [] 0 ⟨[], [], [3], 0⟩ Tryz.f105 ((rds3 rdEns (rdI .i64) rdX).enc a) fun v H _ => resOut ((fun a => .tup [i64 (lowB (fun i => (a.1.e i).iD) a.1.n a.2.1), .v (.bool (hitB (fun i => (a.1.e i).iD) a.1.n a.2.1))]) a) H v := by
  intro ⟨l, q, x⟩ ⟨hn, hs, hx⟩
  replace hx : x = (.f (.func 106) [] [.rp [.v (.func (.func 46) #[] #[])] 0]) := hx
  replace hn : (l.n : Int) ≤ 4611686018427387903 := hn
  replace hs : Inc (fun i => (l.e i).iD) l.n := hs
  subst hx
  refine Exists.intro (bsE l q) ?_
  refine And.intro ?_ ?_
  · refine ⟨((0 : Nat), l.n), [], [], trivial, ⟨Nat.zero_le _, Nat.le_refl _, fun t h => absurd h (Nat.not_lt_zero _), fun t h1 h2 => absurd h2 (Nat.not_lt.2 h1)⟩, ?_⟩
    repeat' (first | (refine And.intro ?_ ?_) | (intro _) | exact rfl)
  refine fun (x : Nat × Nat) (hx : x.1 ≤ x.2 ∧ x.2 ≤ l.n ∧ (∀ t, t < x.1 → (fun i => (l.e i).iD) t < q) ∧ (∀ t, x.2 ≤ t → t < l.n → q ≤ (fun i => (l.e i).iD) t)) => ?_
  obtain ⟨i, j⟩ := x
  obtain ⟨x1, x2, x3, x4⟩ : i ≤ j ∧ j ≤ l.n ∧ (∀ t, t < i → (fun i => (l.e i).iD) t < q) ∧ (∀ t, j ≤ t → t < l.n → q ≤ (fun i => (l.e i).iD) t) := hx
  refine And.intro (fun hb => ?_) (fun hb => ?_)
  · have hb : (i : Int) < j := of_decide_eq_true hb
    refine And.intro (by unfold I64; omega : I64 ((i : Int) + j)) ?_
    have hh := half i j (by omega)
    obtain ⟨h, hd⟩ : ∃ h, h = (i + j) / 2 := ⟨_, rfl⟩
    rw [← hd] at hh
    refine And.intro (show 0 ≤ _ ∧ _ < ((l.n : Nat) : Int) by rw [hh]; omega) ?_
    refine And.intro ⟨fun _ _ => trivial, rfl⟩ ?_
    refine And.intro (fun hc => ?_) (fun hc => ?_)
    · have hc : decide (cmpI ((fun i => (l.e i).iD) (IntKind.i64.wrap ((IntKind.u64.wrap ((i : Int) + j)).fdiv (2 ^ min (Int.toNat 1) IntKind.u64.bits))).toNat) q < 0) = true := hc
      rw [hh] at hc
      have hc : (fun i => (l.e i).iD) h < q := cmpI_lts (of_decide_eq_true hc)
      have h64 : I64 ((h : Int) + 1) := by unfold I64; omega
      refine And.intro (show I64 (_ + 1) by rw [hh]; exact h64) ?_
      refine ⟨(h + 1, j), [], [], (by show j - (h + 1) < j - i; omega), ⟨(by omega : h + 1 ≤ j), x2, fun t ht => ?_, x4⟩, ?_⟩
      · rcases Nat.eq_or_lt_of_le (Nat.le_of_lt_succ ht) with rfl | ht
        · exact hc
        · exact Int.lt_trans (hs t h ht (by omega)) hc
      repeat' (first | (refine And.intro ?_ ?_) | (intro _) | exact rfl)
      all_goals (show ((h + 1 : Nat) : Int) = _ + 1; rw [hh]; rfl)
    · have hc : decide (cmpI ((fun i => (l.e i).iD) (IntKind.i64.wrap ((IntKind.u64.wrap ((i : Int) + j)).fdiv (2 ^ min (Int.toNat 1) IntKind.u64.bits))).toNat) q < 0) = false := hc
      rw [hh] at hc
      have hc : q ≤ (fun i => (l.e i).iD) h := cmpI_ges (of_decide_eq_false hc)
      refine ⟨(i, h), [], [], (by show h - i < j - i; omega), ⟨(by omega : i ≤ h), (by omega : h ≤ l.n), x3, fun t h1 h2 => ?_⟩, ?_⟩
      · rcases Nat.eq_or_lt_of_le h1 with rfl | h1
        · exact hc
        · exact Int.le_trans hc (Int.le_of_lt (hs h t h1 h2))
      repeat' (first | (refine And.intro ?_ ?_) | (intro _) | exact rfl)
      all_goals exact hh.symm
  · have hb : ¬ (i : Int) < j := of_decide_eq_false hb
    have e : lowB (fun i => (l.e i).iD) l.n q = i := lowB_eq (by omega) x3 (fun t h1 h2 => x4 t (by omega) h2)
    refine And.intro (fun hc => ?_) ?_
    · have hc : (i : Int) < l.n := of_decide_eq_true hc
      exact ⟨by omega, hc⟩
    refine And.intro (fun hc => ?_) ?_
    · exact ⟨fun _ _ => trivial, rfl⟩
    refine And.intro (congrArg (fun k : Nat => (k : Int)) e) ?_
    refine Eq.trans (a := hitB (fun i => (l.e i).iD) l.n q) (b := decide ((i : Int) < l.n) && decide (cmpI ((fun i => (l.e i).iD) i) q = 0)) ?_ rfl
    unfold hitB
    rw [e]
    congr 1
    exact decide_eq_decide.2 (cmpI_eqs (a := (fun i => (l.e i).iD) i) (b := q)).symm
noncomputable def conBsE : Con cx := walkCon 105 Tryz.call105 (rds3 rdEns (rdI .i64) rdX) (fun a => [(a.1.n : Int) ≤ halfN, Inc (fun i => (a.1.e i).iD) a.1.n, a.2.2 = (.f (.func 106) [] [.rp [.v (.func (.func 46) #[] #[])] 0])]) (fun a => .tup [i64 (lowB (fun i => (a.1.e i).iD) a.1.n a.2.1), .v (.bool (hitB (fun i => (a.1.e i).iD) a.1.n a.2.1))]) (fun _ => ⟨[], [], [3], 0⟩) [] (fun _ => rfl) follows Tryz.func105 (by kernel_rfl) BsE_walk
set_option maxHeartbeats 2000000 in
set_option maxRecDepth 8000 in
theorem PlE_walk : ∀ a, conj ((fun a => [(a.1.n : Int) ≤ halfN, Inc (fun i => (a.1.e i).iD) a.1.n, a.2.2 = (.v (.func (.func 46) #[] #[]))]) a) → evFn (C := cx) [conBsE] [] 0 noHow Tryz.f74 ((rds3 rdEns (rdI .i64) rdX).enc a) fun v H _ => resOut ((fun a => .tup [i64 (lowB (fun i => (a.1.e i).iD) a.1.n a.2.1), .v (.bool (hitB (fun i => (a.1.e i).iD) a.1.n a.2.1))]) a) H v := by
  intro ⟨l, q, x⟩ ⟨hn, hs, hx⟩
  replace hx : x = .v (.func (.func 46) #[] #[]) := hx
  subst hx
  refine And.intro ⟨fun _ _ _ _ => trivial, hn, hs, rfl⟩ ?_
  repeat' (first | (refine And.intro ?_ ?_) | (intro _) | exact rfl)
noncomputable def conPlE : Con cx := walkCon 74 Tryz.call74 (rds3 rdEns (rdI .i64) rdX) (fun a => [(a.1.n : Int) ≤ halfN, Inc (fun i => (a.1.e i).iD) a.1.n, a.2.2 = (.v (.func (.func 46) #[] #[]))]) (fun a => .tup [i64 (lowB (fun i => (a.1.e i).iD) a.1.n a.2.1), .v (.bool (hitB (fun i => (a.1.e i).iD) a.1.n a.2.1))]) (fun _ => noHow) [] (fun _ => rfl) follows Tryz.func74 (by kernel_rfl) PlE_walk
end Go.Proofs.YtjdohgcolhpegaaGreatDoor
namespace Go.Proofs.YtjdohgcolhpegaaGreatDoor
open Go.RowKit

theorem Cms.inc_of {l : Cms} (h : l.inc = true) : Inc (fun i => (l.c i).kind) l.n := Go.Proofs.YtjdohgcolhpegaaGreatDoor.inc_of (by simpa [Cms.inc] using h)
theorem Ens.inc_of {l : Ens} (h : l.inc = true) : Inc (fun i => (l.e i).iD) l.n := Go.Proofs.YtjdohgcolhpegaaGreatDoor.inc_of (by simpa [Ens.inc] using h)
structure Ent.Right (e : Ent) : Prop where
  lo : 1 ≤ e.iD
  hi : e.iD ≤ 65536
  inc : Inc (fun i => (e.l.c i).kind) e.l.n
  fits : ∀ i, i < e.l.n → (e.l.c i).Fits
theorem Ent.right_iff {e : Ent} : e.right = true ↔ e.Right := by
  constructor
  · intro h
    simp only [Ent.right, Bool.and_eq_true, decide_eq_true_eq, Bool.not_eq_true'] at h
    obtain ⟨⟨⟨h1, h2⟩, h3⟩, h4⟩ := h
    exact ⟨h1, h2, Cms.inc_of h3, fun i hi => by
      have := anyN_no h4 i (Nat.zero_le _) (by omega)
      simpa [Comp.fits] using this⟩
  · intro h
    simp only [Ent.right, Bool.and_eq_true, decide_eq_true_eq, Bool.not_eq_true']
    exact ⟨⟨⟨h.lo, h.hi⟩, by simp [Cms.inc, uns_of_inc h.inc]⟩, anyN_of fun i _ hi => by simp [fits_yes (h.fits i (by omega))]⟩
structure Wor.Valid (w : Wor) : Prop where
  lo : 0 ≤ w.tick
  hi : w.tick ≤ 1073741824
  len : (w.l.n : Int) ≤ 64
  inc : Inc (fun i => (w.l.e i).iD) w.l.n
  right : ∀ i, i < w.l.n → (w.l.e i).Right
theorem Wor.valid_iff {w : Wor} : w.valid = true ↔ w.Valid := by
  constructor
  · intro h
    simp only [Wor.valid, Bool.and_eq_true, decide_eq_true_eq, Bool.not_eq_true'] at h
    obtain ⟨⟨⟨⟨h1, h2⟩, h3⟩, h4⟩, h5⟩ := h
    exact ⟨h1, h2, h3, Ens.inc_of h4, fun i hi => by
      have := anyN_no h5 i (Nat.zero_le _) (by omega)
      exact Ent.right_iff.1 (by simpa using this)⟩
  · intro h
    simp only [Wor.valid, Bool.and_eq_true, decide_eq_true_eq, Bool.not_eq_true']
    exact ⟨⟨⟨⟨h.lo, h.hi⟩, h.len⟩, by simp [Ens.inc, uns_of_inc h.inc]⟩, anyN_of fun i _ hi => by simp [Ent.right_iff.2 (h.right i (by omega))]⟩
/-- Keys that increase strictly are not more than their range. -/
theorem inc_ge {key : Nat → Int} {n : Nat} {b : Int} (h : Inc key n) (hb : ∀ i, i < n → b ≤ key i) : ∀ i, i < n → b + i ≤ key i := fun i => by
  induction i with
  | zero => intro hi; have := hb 0 hi; simpa using this
  | succ i ih =>
    intro hi
    have h1 := ih (by omega)
    have h2 := h i (i + 1) (by omega) hi
    omega
theorem inc_len {key : Nat → Int} {n : Nat} {b c : Int} (h : Inc key n) (hb : ∀ i, i < n → b ≤ key i ∧ key i ≤ c) (hbc : b ≤ c + 1) : (n : Int) ≤ c + 1 - b := by
  by_cases hn : n = 0
  · subst hn; omega
  · have h1 := inc_ge h (fun i hi => (hb i hi).1) (n - 1) (by omega)
    have h2 := (hb (n - 1) (by omega)).2
    omega
theorem Ent.Right.len {e : Ent} (h : e.Right) : (e.l.n : Int) ≤ 10 := by
  have := inc_len (b := 1) (c := 10) h.inc (fun i hi => ⟨(h.fits i hi).1, (h.fits i hi).2.1⟩) (by omega)
  omega
def keyI (w : Wor) (i : Nat) : Int := (w.l.e i).iD
def findE (w : Wor) (id : Int) : Nat × Bool := match w.valid with
  | true => (lowB (fun i => (w.l.e i).iD) w.l.n id, hitB (fun i => (w.l.e i).iD) w.l.n id)
  | false => (0, false)
set_option maxHeartbeats 2000000 in
set_option maxRecDepth 8000 in
theorem Find_walk : ∀ a, conj ((fun a => [a.1.l.Sm]) a) → evFn (C := cx) [conWValid, conPlE] [] 0 noHow Tryz.f42 ((rds2 rdWor (rdI .i64)).enc a) fun v H _ => resOut ((fun a => .tup [i64 (findE a.1 a.2).1, .v (.bool (findE a.1 a.2).2)]) a) H v := by
  intro ⟨w, id⟩ hm
  replace hm : w.l.Sm := hm
  refine And.intro ⟨fun _ _ _ _ => trivial, hm⟩ ?_
  refine And.intro (fun hv => ?_) (fun hv => ?_)
  · have hv : (!w.valid) = true := hv
    have hv : w.valid = false := by simpa using hv
    have e : findE w id = (0, false) := by unfold findE; rw [hv]
    simp only [e]
    repeat' (first | (refine And.intro ?_ ?_) | (intro _) | exact rfl)
  · have hv : (!w.valid) = false := hv
    have hv : w.valid = true := by simpa using hv
    have e : findE w id = (lowB (fun i => (w.l.e i).iD) w.l.n id, hitB (fun i => (w.l.e i).iD) w.l.n id) := by unfold findE; rw [hv]
    simp only [e]
    have hl : (w.l.n : Int) ≤ halfN := by have := (Wor.valid_iff.1 hv).len; unfold halfN; omega
    refine And.intro ⟨fun _ _ _ _ => trivial, hl, (Wor.valid_iff.1 hv).inc, rfl⟩ ?_
    repeat' (first | (refine And.intro ?_ ?_) | (intro _) | exact rfl)
noncomputable def conFind : Con cx := walkCon 42 Tryz.call42 (rds2 rdWor (rdI .i64)) (fun a => [a.1.l.Sm]) (fun a => .tup [i64 (findE a.1 a.2).1, .v (.bool (findE a.1 a.2).2)]) (fun _ => noHow) [] (fun _ => rfl) follows Tryz.func42 (by kernel_rfl) Find_walk
def Comp.no : Comp := ⟨0, 0, 0, 0, 0⟩
theorem find_hit {w : Wor} {id : Int} (h : (findE w id).2 = true) : w.Valid ∧ (findE w id).1 < w.l.n ∧ (w.l.e (findE w id).1).iD = id := by
  unfold findE at *
  cases hv : w.valid with
  | false => rw [hv] at h; cases h
  | true =>
    rw [hv] at h
    exact ⟨Wor.valid_iff.1 hv, hitB_iff.1 h⟩
def kinds (l : Cms) (i : Nat) : Int := (l.c i).kind
def getC (l : Cms) (kind : Int) : Comp × Bool := match hitB (fun i => (l.c i).kind) l.n kind with
  | true => (l.c (lowB (fun i => (l.c i).kind) l.n kind), true)
  | false => (Comp.no, false)
def getE (w : Wor) (id kind : Int) : Comp × Bool := match (findE w id).2 with
  | true => getC (w.l.e (findE w id).1).l kind
  | false => (Comp.no, false)
set_option maxHeartbeats 2000000 in
set_option maxRecDepth 8000 in
theorem Get_walk : ∀ a, conj ((fun a => [a.1.l.Sm]) a) → evFn (C := cx) [conFind, conPlC] [] 0 noHow Tryz.f15 ((rds3 rdWor (rdI .i64) (rdI .u8)).enc a) fun v H _ => resOut ((fun a => .tup [(getE a.1 a.2.1 a.2.2).1.sv, .v (.bool (getE a.1 a.2.1 a.2.2).2)]) a) H v := by
  intro ⟨w, id, kind⟩ hm
  replace hm : w.l.Sm := hm
  refine And.intro ⟨fun _ _ _ _ => trivial, hm⟩ ?_
  refine And.intro (fun hv => ?_) (fun hv => ?_)
  · have hv : (!(findE w id).2) = true := hv
    have hv : (findE w id).2 = false := by simpa using hv
    have e : getE w id kind = (Comp.no, false) := by unfold getE; rw [hv]
    simp only [e]
    repeat' (first | (refine And.intro ?_ ?_) | (intro _) | exact rfl)
  · have hv : (!(findE w id).2) = false := hv
    have hv : (findE w id).2 = true := by simpa using hv
    have e : getE w id kind = getC (w.l.e (findE w id).1).l kind := by unfold getE; rw [hv]
    simp only [e]
    obtain ⟨h1, h2, h3⟩ := find_hit hv
    have hr := h1.right _ h2
    have hl := hr.len
    have q1 : (0 : Int) ≤ ((findE w id).1 : Int) ∧ ((findE w id).1 : Int) < w.l.n := ⟨by omega, by omega⟩
    have q2 : ((w.l.e (findE w id).1).l.n : Int) ≤ halfN := by unfold halfN; omega
    refine And.intro q1 ?_
    refine And.intro ⟨fun _ _ => trivial, q2, hr.inc, rfl⟩ ?_
    refine And.intro (fun hc => ?_) (fun hc => ?_)
    · have hc : (!hitB (fun j => ((w.l.e (findE w id).1).l.c j).kind) (w.l.e (findE w id).1).l.n kind) = true := hc
      have hc : hitB (fun j => ((w.l.e (findE w id).1).l.c j).kind) (w.l.e (findE w id).1).l.n kind = false := by simpa using hc
      have e : getC (w.l.e (findE w id).1).l kind = (Comp.no, false) := by unfold getC; rw [hc]
      simp only [e]
      repeat' (first | (refine And.intro ?_ ?_) | (intro _) | exact rfl)
    · have hc : (!hitB (fun j => ((w.l.e (findE w id).1).l.c j).kind) (w.l.e (findE w id).1).l.n kind) = false := hc
      have hc : hitB (fun j => ((w.l.e (findE w id).1).l.c j).kind) (w.l.e (findE w id).1).l.n kind = true := by simpa using hc
      have e : getC (w.l.e (findE w id).1).l kind = ((w.l.e (findE w id).1).l.c (lowB (fun j => ((w.l.e (findE w id).1).l.c j).kind) (w.l.e (findE w id).1).l.n kind), true) := by unfold getC; rw [hc]
      simp only [e]
      have h4 := (hitB_iff.1 hc).1
      have q3 : (0 : Int) ≤ (lowB (fun j => ((w.l.e (findE w id).1).l.c j).kind) (w.l.e (findE w id).1).l.n kind : Int) ∧ (lowB (fun j => ((w.l.e (findE w id).1).l.c j).kind) (w.l.e (findE w id).1).l.n kind : Int) < (w.l.e (findE w id).1).l.n := ⟨by omega, by omega⟩
      refine And.intro q1 ?_
      refine And.intro q3 ?_
      repeat' (first | (refine And.intro ?_ ?_) | (intro _) | exact rfl)
noncomputable def conGet : Con cx := walkCon 15 Tryz.call15 (rds3 rdWor (rdI .i64) (rdI .u8)) (fun a => [a.1.l.Sm]) (fun a => .tup [(getE a.1 a.2.1 a.2.2).1.sv, .v (.bool (getE a.1 a.2.1 a.2.2).2)]) (fun _ => noHow) [] (fun _ => rfl) follows Tryz.func15 (by kernel_rfl) Get_walk
end Go.Proofs.YtjdohgcolhpegaaGreatDoor
namespace Go.Proofs.YtjdohgcolhpegaaGreatDoor
open Go.RowKit

/-- The first of r numbers from the k-th on for which g holds; k + r: there is none. -/
def ixN (g : Nat → Bool) : Nat → Nat → Nat
  | k, 0 => k
  | k, r + 1 => match g k with | true => k | false => ixN g (k + 1) r
theorem ixN_step {g : Nat → Bool} {k n : Nat} (h : k < n) : ixN g k (n - k) = match g k with | true => k | false => ixN g (k + 1) (n - (k + 1)) := by
  rw [show n - k = (n - (k + 1)) + 1 by omega]; rfl
theorem ixN_le {g : Nat → Bool} : ∀ {r k : Nat}, k ≤ ixN g k r ∧ ixN g k r ≤ k + r
  | 0, k => ⟨Nat.le_refl _, Nat.le_refl _⟩
  | r + 1, k => by
    simp only [ixN]
    split
    · omega
    · have := ixN_le (g := g) (r := r) (k := k + 1); omega
theorem ixN_hit {g : Nat → Bool} : ∀ {r k : Nat}, ixN g k r < k + r → g (ixN g k r) = true
  | 0, k, h => by simp [ixN] at h
  | r + 1, k, h => by
    simp only [ixN] at h ⊢
    split at h
    · rename_i hg; exact hg
    · exact ixN_hit (by omega)
theorem ixN_no {g : Nat → Bool} : ∀ {r k i : Nat}, k ≤ i → i < ixN g k r → g i = false
  | 0, k, i, h1, h2 => by simp [ixN] at h2; omega
  | r + 1, k, i, h1, h2 => by
    simp only [ixN] at h2
    split at h2
    · omega
    · rename_i hg
      rcases Nat.eq_or_lt_of_le h1 with rfl | h1
      · exact hg
      · exact ixN_no h1 h2
def ixI (g : Nat → Bool) (n : Nat) : Int := match decide (ixN g 0 n < n) with | true => (ixN g 0 n : Int) | false => -1
theorem ixI_yes {g : Nat → Bool} {n k : Nat} (h : ixN g 0 n = k) (hk : k < n) : ixI g n = k := by unfold ixI; rw [h, decide_eq_true hk]
theorem ixI_none {g : Nat → Bool} {n : Nat} (h : ixN g 0 n = n) : ixI g n = -1 := by unfold ixI; rw [h, decide_eq_false (Nat.lt_irrefl n)]
/-- What a closure has captured. -/
def rkI : SV → Int
  | .rp (y :: _) _ => y.iv
  | _ => 0
def kxI : SV → Int
  | .f _ _ (y :: _) => rkI y
  | _ => 0
/-- The first component of a kind. -/
def cmpF (l : Cms) (q : Int) : Comp × Bool := match decide (ixN (fun i => decide ((l.c i).kind = q)) 0 l.n < l.n) with
  | true => (l.c (ixN (fun i => decide ((l.c i).kind = q)) 0 l.n), true)
  | false => (Comp.no, false)
def Comp.vs (c : Comp) : SV := .agg [.v (.int .i64 c.v0), .v (.int .i64 c.v1), .v (.int .i64 c.v2), .v (.int .i64 c.v3)]
def pointF (e : Ent) : Vec × Bool := (⟨(cmpF e.l 1).1.v0, (cmpF e.l 1).1.v1⟩, (cmpF e.l 1).2)
structure Vcs where
  n : Nat
  v : Nat → Vec
def Vcs.sv (l : Vcs) : SV := .rs 2 l.n fun i => (l.v i).cells
def rdVcs : Rd Vcs := ⟨.rs 2 0 fun _ => rdVec.pat.al, fun x => ⟨x.rn, fun i => Vec.of (.agg (x.rf i))⟩, Vcs.sv, fun _ => rfl⟩
structure Eye where
  client : Int
  p : Vcs
def Eye.cells (b : Eye) : List SV := [.v (.int .i64 b.client), b.p.sv]
def Eye.sv (b : Eye) : SV := .agg b.cells
def rdEye : Rd Eye := ⟨.agg [.v (.int .i64 0), .rs 2 0 fun _ => rdVec.pat.al], fun x => ⟨(hdS x.al).iv, rdVcs.dec (hdS (tlS x.al))⟩, Eye.sv, fun _ => rfl⟩
def ownsF (c : Int) (e : Ent) : Bool := (cmpF e.l 4).2 && decide ((cmpF e.l 4).1.v0 = c)
end Go.Proofs.YtjdohgcolhpegaaGreatDoor
namespace Go.Proofs.YtjdohgcolhpegaaGreatDoor
open Go.RowKit

set_option maxHeartbeats 2000000 in
set_option maxRecDepth 8000 in
theorem Clone_walk : ∀ a, conj ((fun a => [a.n ≤ 1000]) a) → evFn (C := cx) [] [] 0 noHow Tryz.f84 ((rds1 rdCms).enc a) fun v H _ => resOut ((fun a => a.sv) a) H v := by
  intro l hm
  replace hm : l.n ≤ 1000 := hm
  intro b hb
  refine And.intro (fun h => ?_) (fun h => ?_)
  · have h : (b != false) = true := h
    exact hb (by simpa using h)
  have hf : fitO l.n 40 := ⟨Nat.le_trans hm (by decide), by omega⟩
  refine And.intro hf ?_
  repeat' (first | (refine And.intro ?_ ?_) | (intro _) | exact rfl)
  all_goals (show (_ : Int) = _; rw [Nat.zero_add])
noncomputable def conClone : Con cx := walkCon 84 Tryz.call84 (rds1 rdCms) (fun a => [a.n ≤ 1000]) (fun a => a.sv) (fun _ => noHow) [] (fun _ => rfl) follows Tryz.func84 (by kernel_rfl) Clone_walk
set_option maxHeartbeats 2000000 in
set_option maxRecDepth 8000 in
theorem SOwn_walk : ∀ a, conj ((fun a => [a.l.n ≤ 1000]) a) → evFn (C := cx) [conClone] [] 0 noHow Tryz.f70 ((rds1 rdEnt).enc a) fun v H _ => resOut ((fun a => a.sv) a) H v := by
  intro e hm
  refine And.intro ⟨fun _ _ => trivial, hm⟩ ?_
  repeat' (first | (refine And.intro ?_ ?_) | (intro _) | exact rfl)
noncomputable def conSOwn : Con cx := walkCon 70 Tryz.call70 (rds1 rdEnt) (fun a => [a.l.n ≤ 1000]) (fun a => a.sv) (fun _ => noHow) [] (fun _ => rfl) follows Tryz.func70 (by kernel_rfl) SOwn_walk
def Ent.no : Ent := ⟨0, ⟨0, fun _ => Comp.no⟩⟩
def entE (w : Wor) (id : Int) : Ent × Bool := match (findE w id).2 with
  | true => (w.l.e (findE w id).1, true)
  | false => (Ent.no, false)
end Go.Proofs.YtjdohgcolhpegaaGreatDoor
namespace Go.Proofs.YtjdohgcolhpegaaGreatDoor
open Go.RowKit

/-- What f makes of the numbers below k for which g holds. -/
def filtM {α : Type} (f : Nat → α) (g : Nat → Bool) : Nat → List α
  | 0 => []
  | k + 1 => match g k with | true => filtM f g k ++ [f k] | false => filtM f g k
section
variable {α : Type} {f : Nat → α} {g : Nat → Bool}
theorem filtM_len : ∀ k, (filtM f g k).length ≤ k
  | 0 => Nat.le_refl _
  | k + 1 => by
    have := filtM_len k
    simp only [filtM]
    split
    · simp; omega
    · omega
theorem filtM_yes {k : Nat} (h : g k = true) : filtM f g (k + 1) = filtM f g k ++ [f k] := by simp only [filtM, h]
theorem filtM_no {k : Nat} (h : g k = false) : filtM f g (k + 1) = filtM f g k := by simp only [filtM, h]
theorem filtM_mem {x : α} : ∀ k, x ∈ filtM f g k ↔ ∃ i : Nat, i < k ∧ x = f i ∧ g i = true
  | 0 => by simp [filtM]
  | k + 1 => by
    have ih := filtM_mem (x := x) k
    simp only [filtM]
    split
    · rename_i h
      rw [List.mem_append, ih, List.mem_singleton]
      constructor
      · rintro (⟨i, h1, h2, h3⟩ | rfl)
        · exact ⟨i, by omega, h2, h3⟩
        · exact ⟨k, by omega, rfl, h⟩
      · rintro ⟨i, h1, h2, h3⟩
        by_cases e : i = k
        · subst e; exact .inr h2
        · exact .inl ⟨i, by omega, h2, h3⟩
    · rename_i h
      rw [ih]
      constructor
      · rintro ⟨i, h1, h2, h3⟩
        exact ⟨i, by omega, h2, h3⟩
      · rintro ⟨i, h1, h2, h3⟩
        refine ⟨i, ?_, h2, h3⟩
        have : i ≠ k := fun e => by subst e; rw [h] at h3; cases h3
        omega
theorem pushM {d x : α} (l : List α) (i : Nat) (hi : i < l.length + 1) : (l ++ [x]).getD i d = bif Nat.ble l.length i then x else l.getD i d := by
  simp only [List.getD_eq_getElem?_getD]
  rcases Nat.lt_or_ge i l.length with h1 | h1
  · rw [List.getElem?_append_left h1, show Nat.ble l.length i = false by cases hb : Nat.ble l.length i with | false => rfl | true => exact absurd (Nat.le_of_ble_eq_true hb) (by omega)]
    rfl
  · rw [List.getElem?_append_right h1, show i - l.length = 0 by omega, show Nat.ble l.length i = true from Nat.ble_eq_true_of_le h1]
    rfl
end
theorem apply_bif {α β : Type} (f : α → β) {b : Bool} {x y : α} : f (bif b then x else y) = bif b then f x else f y := by cases b <;> rfl
def eyesL (l : Ens) (c : Int) (k : Nat) : List Vec := filtM (fun i => (pointF (l.e i)).1) (fun i => (pointF (l.e i)).2 && ownsF c (l.e i)) k
def eyeOf (w : Wor) (c : Int) : Eye := ⟨c, ⟨(eyesL w.l c w.l.n).length, fun i => (eyesL w.l c w.l.n).getD i ⟨0, 0⟩⟩⟩
def opB (w : Wor) (c : Int) : Bool := decide (c < 1) || decide (8 < c) || !w.valid
def opE (w : Wor) (c : Int) : Eye × Int := match opB w c with
  | true => (⟨0, ⟨0, fun _ => ⟨0, 0⟩⟩⟩, 2)
  | false => (eyeOf w c, 0)
end Go.Proofs.YtjdohgcolhpegaaGreatDoor
namespace Go.Proofs.YtjdohgcolhpegaaGreatDoor
open Go.RowKit

/-- The client in what a closure has captured. -/
def kcI : SV → Int
  | .rp (.f _ (.agg (y :: _) :: _) _ :: _) _ => y.iv
  | _ => 0
def ownL (l : Ens) (c : Int) (k : Nat) : List Int := filtM (fun i => (l.e i).iD) (fun i => ownsF c (l.e i)) k
def ownE (w : Wor) (c : Int) : List Int × Int := match opB w c with
  | true => ([], 2)
  | false => (ownL w.l c w.l.n, 0)
def intsS (l : List Int) : SV := .rs 1 l.length fun i => [.v (.int .i64 (l.getD i 0))]
end Go.Proofs.YtjdohgcolhpegaaGreatDoor
