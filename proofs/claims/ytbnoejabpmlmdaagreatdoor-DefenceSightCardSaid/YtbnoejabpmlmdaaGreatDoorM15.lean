/- DefenceSight: the walk. -/
import Derived.Test.YtbnoejabpmlmdaaGreatDoorM14
import Derived.Test.YtbnoejabpmlmdaaGreatDoorM6
import Derived.Test.YtbnoejabpmlmdaaGreatDoorM10
namespace Go.Proofs.YtbnoejabpmlmdaaGreatDoor
open Go.RowKit

/-- The last of the bodies ahead of k that has a number. -/
def lastB (L : List Body) (id : Int) : Nat → Body
  | 0 => Body.no
  | k + 1 => match decide ((bodG L k).iD = id) with | true => bodG L k | false => lastB L id k
theorem last_eq {L : List Body} {id : Int} {n j : Nat} (hinc : ∀ i j, i < j → j < L.length → (bodG L i).iD < (bodG L j).iD) (hj : j < n) (hn : n ≤ L.length) (h : (bodG L j).iD = id) : lastB L id n = bodG L j := by
  induction n with
  | zero => omega
  | succ n ih =>
    simp only [lastB]
    by_cases e : j = n
    · subst e; rw [decide_eq_true h]
    · have : ¬ (bodG L n).iD = id := by have := hinc j n (by omega) (by omega); omega
      rw [decide_eq_false this]
      exact ih (by omega) (by omega)
/-- Is a number among the first k of a list? -/
def memK (f : Fam) (v : Int) : Nat → Bool
  | 0 => false
  | k + 1 => memK f v k || decide (f.g k = v)
theorem memK_iff {f : Fam} {v : Int} : ∀ {k : Nat}, memK f v k = true ↔ ∃ i, i < k ∧ f.g i = v
  | 0 => by simp [memK]
  | k + 1 => by
    simp only [memK, Bool.or_eq_true, decide_eq_true_eq, memK_iff (k := k)]
    constructor
    · rintro (⟨i, h1, h2⟩ | h)
      · exact ⟨i, by omega, h2⟩
      · exact ⟨k, by omega, h⟩
    · rintro ⟨i, h1, h2⟩
      by_cases e : i = k
      · subst e; exact .inr h2
      · exact .inl ⟨i, by omega, h2⟩
theorem memK_all {f : Fam} {v : Int} : memK f v f.n = inF f v := by
  cases h : inF f v with
  | true =>
    apply memK_iff.2
    apply Classical.byContradiction
    intro c
    have : inF f v = false := anyN_of fun i _ hi => decide_eq_false fun e => c ⟨i, by omega, e.symm⟩
    rw [this] at h; cases h
  | false =>
    cases hm : memK f v f.n with
    | false => rfl
    | true =>
      obtain ⟨i, h1, h2⟩ := memK_iff.1 hm
      have := anyN_no h i (Nat.zero_le _) (by omega)
      exact absurd h2.symm (of_decide_eq_false this)
def sgH (w : Wor) (i : Df.Input) (p q : Vec) : Heap := [(0, .lay w.cells 24), (1, .lay i.cells 28), (3, .lay p.cells 26), (4, .lay q.cells 26)]
def bodS (L : List Body) : SV := .rs 9 L.length fun i => (bodG L i).cells
def sgC1 (w : Wor) (i : Df.Input) (p q : Vec) (f : Fam) (id : Int) (L : List Body) : Cut := ⟨Nat, fun k => k ≤ L.length,
  fun k => ⟨[sl 3 (.p 0 0), sl 5 (.p 1 0), sl 8 (i64 id), sl 12 (.p 3 0), sl 13 (.p 4 0), sl 16 (famS f), sl 18 (bodS L), sl 19 (.p 5 0), sl 136 (bodS L), sl 137 (i64 L.length), sl 138 (i64 k)],
    (5, .lay (lastB L id k).cells 53) :: sgH w i p q, 6, 0, [], []⟩, fun k => L.length - k⟩
theorem blind_err {w : Wor} {sh : Int} {i : Df.Input} (h : ¬ (blindE w sh i).2 = 0) : (blindE w sh i).1 = 0 := by
  unfold blindE at *
  cases c0 : blindBad w i with
  | true => rfl
  | false =>
    rw [c0] at h
    cases c1 : blindNone w sh i with
    | true => rfl
    | false =>
      rw [c1] at h
      cases c : decide (¬ (blindHit w sh i).2 = 0) with
      | true => rfl
      | false =>
        rw [c] at h
        cases c2 : decide ((seesE w i.client (blindHit w sh i).1).2 = 0) && (seesE w i.client (blindHit w sh i).1).1 with
        | true => rfl
        | false => rw [c2] at h; exact absurd rfl h
/-- Of the first k bodies: those of others that are met. -/
structure SgP (w : Wor) (i : Df.Input) (p q : Vec) (f : Fam) (id : Int) (L : List Body) (k : Nat) (some first : Bool) : Prop where
  le : k ≤ L.length
  idle : ¬ id = 0 → first = false
  fst : first = true → ∃ j, j < L.length ∧ inF f (bodG L j).iD = false ∧ meetsB (bodG L j) p q = true
  sm : id = 0 → (∃ j, j < k ∧ inF f (bodG L j).iD = false ∧ meetsB (bodG L j) p q = true ∧ (seesE w i.client (bodG L j).iD).1 = true) → some = true
def sgC2 (w : Wor) (i : Df.Input) (p q : Vec) (f : Fam) (id : Int) (L : List Body) : Cut := ⟨Nat × Bool × Bool, fun x => SgP w i p q f id L x.1 x.2.1 x.2.2,
  fun x => ⟨[sl 3 (.p 0 0), sl 5 (.p 1 0), sl 8 (i64 id), sl 12 (.p 3 0), sl 13 (.p 4 0), sl 16 (famS f), sl 19 (.p 5 0), sl 22 (.v (.bool x.2.1)), sl 23 (.v (.bool x.2.2)), sl 157 (bodS L), sl 158 (i64 L.length), sl 159 (i64 x.1)],
    (5, .lay (lastB L id L.length).cells 53) :: sgH w i p q, 6, 0, [], []⟩, fun x => L.length - x.1⟩
def sgC3 (w : Wor) (i : Df.Input) (p q : Vec) (f : Fam) (id : Int) (L : List Body) (k : Nat) (s t : Bool) : Cut := ⟨Nat, fun j => j ≤ f.n,
  fun j => ⟨[sl 3 (.p 0 0), sl 5 (.p 1 0), sl 8 (i64 id), sl 12 (.p 3 0), sl 13 (.p 4 0), sl 16 (famS f), sl 19 (.p 5 0), sl 22 (.v (.bool s)), sl 23 (.v (.bool t)), sl 25 (.p 6 0), sl 26 (.v (.bool (memK f (bodG L k).iD j))), sl 157 (bodS L), sl 158 (i64 L.length), sl 159 (i64 k), sl 163 (famS f), sl 164 (i64 f.n), sl 165 (i64 j)],
    (6, .lay (bodG L k).cells 53) :: (5, .lay (lastB L id L.length).cells 53) :: sgH w i p q, 7, 0, [], []⟩, fun j => f.n - j⟩
set_option maxHeartbeats 4000000 in
set_option maxRecDepth 8000 in
theorem sight_walk : ∀ a : Wor × Int × Df.Input, a.1.l.Sm ∧ (0 ≤ a.2.1 ∧ a.2.1 ≤ 255) → evFn (C := cx) [conWValid, Df.conAwake, conBlind, conGet, conSees, conOwn, conBodies, conMeets, conBefore] [] 0 ⟨[], [], [17, 26, 30], 0⟩ Tryz.f3 ((rds3 rdWor (rdI .u8) Df.rdInput).enc a) fun v H _ => resOut (.bl true) H v := by
  intro ⟨w, x, i⟩ ⟨hm, hx⟩
  replace hm : w.l.Sm := hm
  replace hx : 0 ≤ x ∧ x ≤ 255 := hx
  refine And.intro (fun _ => ⟨fun _ _ _ _ => trivial, hm⟩) ?_
  refine And.intro (fun hc => ?_) (fun hc => ?_)
  · exact rfl
  have hc : (decide ((w.l.n : Int) = 0) || decide ((12 : Int) < w.l.n) || !w.valid) = false := hc
  simp only [Bool.or_eq_false_iff, Bool.not_eq_false', decide_eq_false_iff_not] at hc
  obtain ⟨⟨n0, n1⟩, hv⟩ := hc
  have hv := Wor.valid_iff.1 hv
  have hn : w.l.n ≤ 12 := by omega
  have hmod : 0 ≤ x.tmod w.l.n ∧ x.tmod w.l.n < w.l.n := by
    rw [Int.tmod_eq_emod_of_nonneg hx.1]
    exact ⟨Int.emod_nonneg x n0, Int.emod_lt_of_pos x (by omega)⟩
  refine And.intro (by unfold InR; omega : InR x) ?_
  refine And.intro n0 ?_
  refine And.intro hmod ?_
  refine And.intro ⟨fun _ _ _ _ => trivial, hm, hn⟩ ?_
  obtain ⟨sh, hsh⟩ : ∃ sh, sh = (w.l.e (x.tmod w.l.n).toNat).iD := ⟨_, rfl⟩
  refine And.intro (fun he => ?_) (fun he => ?_)
  · have he : decide (¬ (blindE w (w.l.e (x.tmod w.l.n).toNat).iD i).2 = 0) = true := he
    have e0 := blind_err (of_decide_eq_true he)
    refine Eq.trans (a := true) (b := decide ((blindE w (w.l.e (x.tmod w.l.n).toNat).iD i).1 = 0) || false) ?_ rfl
    rw [decide_eq_true e0]
    rfl
  have he : decide (¬ (blindE w (w.l.e (x.tmod w.l.n).toNat).iD i).2 = 0) = false := he
  have K := blind_ok hv hn (by simpa using he : (blindE w (w.l.e (x.tmod w.l.n).toNat).iD i).2 = 0)
  have b1 := get_pos K.pos
  have b2 : (-8192 ≤ i.aimX ∧ i.aimX ≤ 8192) ∧ -8192 ≤ i.aimY ∧ i.aimY ≤ 8192 := by
    have hb2 := K.aim
    unfold Df.beyond at hb2
    simp only [Bool.or_eq_false_iff, decide_eq_false_iff_not] at hb2
    omega
  refine And.intro ⟨fun _ _ _ _ => trivial, hm⟩ ?_
  refine And.intro (by unfold InR; omega : InR ((getE w (w.l.e (x.tmod w.l.n).toNat).iD 1).1.v0 + i.aimX)) ?_
  refine And.intro (by unfold InR; omega : InR ((getE w (w.l.e (x.tmod w.l.n).toNat).iD 1).1.v1 + i.aimY)) ?_
  refine And.intro ⟨fun _ _ _ _ => trivial, hm⟩ ?_
  refine And.intro ⟨fun _ _ _ _ => trivial, hm⟩ ?_
  have oe : (ownE w i.client).2 = 0 := by unfold ownE; rw [K.op]
  refine And.intro (fun hc => ?_) (fun hc => ?_)
  · exfalso
    have hc : (!(getE w (w.l.e (x.tmod w.l.n).toNat).iD 1).2 || decide (¬ (ownE w i.client).2 = 0) || (decide (¬ (blindE w (w.l.e (x.tmod w.l.n).toNat).iD i).1 = 0) && (decide (¬ (seesE w i.client (blindE w (w.l.e (x.tmod w.l.n).toNat).iD i).1).2 = 0) || (seesE w i.client (blindE w (w.l.e (x.tmod w.l.n).toNat).iD i).1).1))) = true := hc
    by_cases c : (blindE w (w.l.e (x.tmod w.l.n).toNat).iD i).1 = 0
    · simp [K.pos, oe, c] at hc
    · obtain ⟨s1, s2, -⟩ := K.some c
      simp [K.pos, oe, c, s1, s2] at hc
  clear hc
  have B := bods_of hv
  have hL := B.len
  refine And.intro ⟨fun _ _ _ _ => trivial, hm, (by omega : w.l.n ≤ 1000), rfl⟩ ?_
  refine Exists.intro (sgC1 w i (blindFrom w (w.l.e (x.tmod w.l.n).toNat).iD) (blindTo w (w.l.e (x.tmod w.l.n).toNat).iD i) (blindOwn w i) (blindE w (w.l.e (x.tmod w.l.n).toNat).iD i).1 (bodiesL w.l w.l.n)) ?_
  refine And.intro ?_ ?_
  · refine ⟨(0 : Nat), [], [], trivial, Nat.zero_le _, ?_⟩
    repeat' (first | (refine And.intro ?_ ?_) | (intro _) | exact rfl)
  refine fun (k : Nat) (hk : k ≤ (bodiesL w.l w.l.n).length) => ?_
  refine And.intro (fun hb => ?_) (fun hb => ?_)
  · have hb : (k : Int) < (bodiesL w.l w.l.n).length := of_decide_eq_true hb
    refine And.intro ⟨by omega, hb⟩ ?_
    refine And.intro (fun hd => ?_) (fun hd => ?_)
    · have hd : decide ((bodG (bodiesL w.l w.l.n) k).iD = (blindE w (w.l.e (x.tmod w.l.n).toNat).iD i).1) = true := hd
      have el : lastB (bodiesL w.l w.l.n) (blindE w (w.l.e (x.tmod w.l.n).toNat).iD i).1 (k + 1) = bodG (bodiesL w.l w.l.n) k := by simp only [lastB]; rw [hd]
      refine And.intro (by unfold I64; omega : I64 ((k : Int) + 1)) ?_
      refine ⟨k + 1, [], [], (by show (bodiesL w.l w.l.n).length - (k + 1) < (bodiesL w.l w.l.n).length - k; omega), (by omega : k + 1 ≤ (bodiesL w.l w.l.n).length), ?_⟩
      repeat' (first | (refine And.intro ?_ ?_) | (intro _) | exact rfl)
      all_goals first | exact congrArg Body.iD el | exact congrArg Body.posX el | exact congrArg Body.posY el | exact congrArg Body.velX el | exact congrArg Body.velY el | exact congrArg Body.w el | exact congrArg Body.h el | exact congrArg Body.round el | exact congrArg Body.fixed el
    · have hd : decide ((bodG (bodiesL w.l w.l.n) k).iD = (blindE w (w.l.e (x.tmod w.l.n).toNat).iD i).1) = false := hd
      have el : lastB (bodiesL w.l w.l.n) (blindE w (w.l.e (x.tmod w.l.n).toNat).iD i).1 (k + 1) = lastB (bodiesL w.l w.l.n) (blindE w (w.l.e (x.tmod w.l.n).toNat).iD i).1 k := by simp only [lastB]; rw [hd]
      refine And.intro (by unfold I64; omega : I64 ((k : Int) + 1)) ?_
      refine ⟨k + 1, [], [], (by show (bodiesL w.l w.l.n).length - (k + 1) < (bodiesL w.l w.l.n).length - k; omega), (by omega : k + 1 ≤ (bodiesL w.l w.l.n).length), ?_⟩
      repeat' (first | (refine And.intro ?_ ?_) | (intro _) | exact rfl)
      all_goals first | exact congrArg Body.iD el | exact congrArg Body.posX el | exact congrArg Body.posY el | exact congrArg Body.velX el | exact congrArg Body.velY el | exact congrArg Body.w el | exact congrArg Body.h el | exact congrArg Body.round el | exact congrArg Body.fixed el
  have hb : ¬ (k : Int) < (bodiesL w.l w.l.n).length := of_decide_eq_false hb
  obtain rfl : k = (bodiesL w.l w.l.n).length := by omega
  clear hb hk
  refine And.intro (fun hc => ?_) (fun hc => ?_)
  · exfalso
    have hc : (decide (¬ (blindE w (w.l.e (x.tmod w.l.n).toNat).iD i).1 = 0) && !meetsB (lastB (bodiesL w.l w.l.n) (blindE w (w.l.e (x.tmod w.l.n).toNat).iD i).1 (bodiesL w.l w.l.n).length) (blindFrom w (w.l.e (x.tmod w.l.n).toNat).iD) (blindTo w (w.l.e (x.tmod w.l.n).toNat).iD i)) = true := hc
    simp only [Bool.and_eq_true, decide_eq_true_eq, Bool.not_eq_true'] at hc
    obtain ⟨-, -, -, j, j1, j2, j3, -⟩ := K.some hc.1
    rw [last_eq B.inc j1 (Nat.le_refl _) j2, j3] at hc
    cases hc.2
  clear hc
  refine Exists.intro (sgC2 w i (blindFrom w (w.l.e (x.tmod w.l.n).toNat).iD) (blindTo w (w.l.e (x.tmod w.l.n).toNat).iD i) (blindOwn w i) (blindE w (w.l.e (x.tmod w.l.n).toNat).iD i).1 (bodiesL w.l w.l.n)) ?_
  refine And.intro ?_ ?_
  · refine ⟨((0, false, false) : Nat × Bool × Bool), [], [], trivial, ⟨Nat.zero_le _, fun _ => rfl, (fun hc => by cases hc), fun _ hc => by
      obtain ⟨j, h1, -⟩ := hc
      exact absurd h1 (Nat.not_lt_zero _)⟩, ?_⟩
    repeat' (first | (refine And.intro ?_ ?_) | (intro _) | exact rfl)
  refine fun (x' : Nat × Bool × Bool) (hx' : SgP w i (blindFrom w (w.l.e (x.tmod w.l.n).toNat).iD) (blindTo w (w.l.e (x.tmod w.l.n).toNat).iD i) (blindOwn w i) (blindE w (w.l.e (x.tmod w.l.n).toNat).iD i).1 (bodiesL w.l w.l.n) x'.1 x'.2.1 x'.2.2) => ?_
  obtain ⟨k, s, t⟩ := x'
  have P : SgP w i (blindFrom w (w.l.e (x.tmod w.l.n).toNat).iD) (blindTo w (w.l.e (x.tmod w.l.n).toNat).iD i) (blindOwn w i) (blindE w (w.l.e (x.tmod w.l.n).toNat).iD i).1 (bodiesL w.l w.l.n) k s t := hx'
  have hk := P.le
  refine And.intro (fun hb => ?_) (fun hb => ?_)
  · have hb : (k : Int) < (bodiesL w.l w.l.n).length := of_decide_eq_true hb
    have hk1 : k < (bodiesL w.l w.l.n).length := by omega
    have hfn : (blindOwn w i).n ≤ 12 := by
      have e : ownE w i.client = (ownL w.l i.client w.l.n, 0) := by unfold ownE; rw [K.op]
      have := filtM_len (f := fun k => (w.l.e k).iD) (g := fun k => ownsF i.client (w.l.e k)) w.l.n
      show (ownE w i.client).1.length ≤ 12
      rw [e]
      show (ownL w.l i.client w.l.n).length ≤ 12
      unfold ownL
      omega
    refine And.intro ⟨by omega, hb⟩ ?_
    refine Exists.intro (sgC3 w i (blindFrom w (w.l.e (x.tmod w.l.n).toNat).iD) (blindTo w (w.l.e (x.tmod w.l.n).toNat).iD i) (blindOwn w i) (blindE w (w.l.e (x.tmod w.l.n).toNat).iD i).1 (bodiesL w.l w.l.n) k s t) ?_
    refine And.intro ?_ ?_
    · refine ⟨(0 : Nat), [], [], trivial, Nat.zero_le _, ?_⟩
      repeat' (first | (refine And.intro ?_ ?_) | (intro _) | exact rfl)
    refine fun (j : Nat) (hj : j ≤ (blindOwn w i).n) => ?_
    refine And.intro (fun hb2 => ?_) (fun hb2 => ?_)
    · have hb2 : (j : Int) < (blindOwn w i).n := of_decide_eq_true hb2
      refine And.intro ⟨by omega, hb2⟩ ?_
      refine And.intro (by unfold I64; omega : I64 ((j : Int) + 1)) ?_
      refine ⟨j + 1, [], [], (by show (blindOwn w i).n - (j + 1) < (blindOwn w i).n - j; omega), (by omega : j + 1 ≤ (blindOwn w i).n), ?_⟩
      repeat' (first | (refine And.intro ?_ ?_) | (intro _) | exact rfl)
    have hb2 : ¬ (j : Int) < (blindOwn w i).n := of_decide_eq_false hb2
    obtain rfl : j = (blindOwn w i).n := by omega
    clear hb2 hj
    have hmem : memK (blindOwn w i) (bodG (bodiesL w.l w.l.n) k).iD (blindOwn w i).n = inF (blindOwn w i) (bodG (bodiesL w.l w.l.n) k).iD := memK_all
    have fk := B.found hv hk1
    have I1 : I64 ((k : Int) + 1) := by unfold I64; omega
    have mu : (bodiesL w.l w.l.n).length - (k + 1) < (bodiesL w.l w.l.n).length - k := by omega
    refine And.intro (fun hc => ?_) (fun hc => ?_)
    · have hc : (memK (blindOwn w i) (bodG (bodiesL w.l w.l.n) k).iD (blindOwn w i).n || !meetsB (bodG (bodiesL w.l w.l.n) k) (blindFrom w (w.l.e (x.tmod w.l.n).toNat).iD) (blindTo w (w.l.e (x.tmod w.l.n).toNat).iD i)) = true := hc
      rw [hmem] at hc
      refine And.intro (fun hd => ?_) (fun hd => ?_)
      · exfalso
        have hd : (memK (blindOwn w i) (bodG (bodiesL w.l w.l.n) k).iD (blindOwn w i).n && decide ((bodG (bodiesL w.l w.l.n) k).iD = (blindE w (w.l.e (x.tmod w.l.n).toNat).iD i).1)) = true := hd
        rw [hmem] at hd
        simp only [Bool.and_eq_true, decide_eq_true_eq] at hd
        have h0 : ¬ (blindE w (w.l.e (x.tmod w.l.n).toNat).iD i).1 = 0 := by have := fk.2; omega
        have := (K.some h0).2.2.1
        rw [← hd.2, hd.1] at this
        cases this
      · refine And.intro I1 ?_
        refine ⟨((k + 1, s, t) : Nat × Bool × Bool), [], [], mu, ⟨by omega, P.idle, P.fst, fun h0 hj => ?_⟩, ?_⟩
        · obtain ⟨j, h1, h2, h3, h4⟩ := hj
          by_cases e : j = k
          · subst e
            rw [h2, h3] at hc
            cases hc
          · exact P.sm h0 ⟨j, by omega, h2, h3, h4⟩
        repeat' (first | (refine And.intro ?_ ?_) | (intro _) | exact rfl)
    have hc : (memK (blindOwn w i) (bodG (bodiesL w.l w.l.n) k).iD (blindOwn w i).n || !meetsB (bodG (bodiesL w.l w.l.n) k) (blindFrom w (w.l.e (x.tmod w.l.n).toNat).iD) (blindTo w (w.l.e (x.tmod w.l.n).toNat).iD i)) = false := hc
    rw [hmem] at hc
    simp only [Bool.or_eq_false_iff, Bool.not_eq_false'] at hc
    refine And.intro ⟨fun _ _ _ _ => trivial, hm⟩ ?_
    have s0 := sees_found K.op fk.1
    refine And.intro (fun hd => ?_) (fun hd => ?_)
    · exfalso
      have hd : decide (¬ (seesE w i.client (bodG (bodiesL w.l w.l.n) k).iD).2 = 0) = true := hd
      exact (of_decide_eq_true hd) s0
    clear hd
    refine And.intro (fun hd => ?_) (fun hd => ?_)
    · have hd : (blindE w (w.l.e (x.tmod w.l.n).toNat).iD i).1 = 0 := of_decide_eq_true hd
      refine And.intro I1 ?_
      refine ⟨((k + 1, s || (seesE w i.client (bodG (bodiesL w.l w.l.n) k).iD).1, t || !(seesE w i.client (bodG (bodiesL w.l w.l.n) k).iD).1) : Nat × Bool × Bool), [], [], mu, ⟨by omega, fun h0 => absurd hd h0, fun _ => ⟨k, hk1, hc.1, hc.2⟩, fun h0 hj => ?_⟩, ?_⟩
      · obtain ⟨j, h1, h2, h3, h4⟩ := hj
        show (s || (seesE w i.client (bodG (bodiesL w.l w.l.n) k).iD).1) = true
        by_cases e : j = k
        · subst e
          rw [h4, Bool.or_true]
        · rw [P.sm h0 ⟨j, by omega, h2, h3, h4⟩, Bool.true_or]
      repeat' (first | (refine And.intro ?_ ?_) | (intro _) | exact rfl)
    have hd : ¬ (blindE w (w.l.e (x.tmod w.l.n).toNat).iD i).1 = 0 := of_decide_eq_false hd
    obtain ⟨-, -, -, j, j1, j2, j3, j4⟩ := K.some hd
    have el := last_eq B.inc j1 (Nat.le_refl _) j2
    obtain ⟨r1, r2, r3⟩ := j4 k hk1 hc.1 hc.2
    rw [← el] at r1 r2 r3
    refine And.intro (fun he => ?_) (fun he => ?_)
    · exfalso
      have he : (decide (¬ (beforeE (lastB (bodiesL w.l w.l.n) (blindE w (w.l.e (x.tmod w.l.n).toNat).iD i).1 (bodiesL w.l w.l.n).length) (bodG (bodiesL w.l w.l.n) k) (blindFrom w (w.l.e (x.tmod w.l.n).toNat).iD) (blindTo w (w.l.e (x.tmod w.l.n).toNat).iD i)).2 = 0) || decide (0 < (beforeE (lastB (bodiesL w.l w.l.n) (blindE w (w.l.e (x.tmod w.l.n).toNat).iD i).1 (bodiesL w.l w.l.n).length) (bodG (bodiesL w.l w.l.n) k) (blindFrom w (w.l.e (x.tmod w.l.n).toNat).iD) (blindTo w (w.l.e (x.tmod w.l.n).toNat).iD i)).1) || (decide ((beforeE (lastB (bodiesL w.l w.l.n) (blindE w (w.l.e (x.tmod w.l.n).toNat).iD i).1 (bodiesL w.l w.l.n).length) (bodG (bodiesL w.l w.l.n) k) (blindFrom w (w.l.e (x.tmod w.l.n).toNat).iD) (blindTo w (w.l.e (x.tmod w.l.n).toNat).iD i)).1 = 0) && decide ((bodG (bodiesL w.l w.l.n) k).iD < (blindE w (w.l.e (x.tmod w.l.n).toNat).iD i).1))) = true := he
      simp only [Bool.or_eq_true, Bool.and_eq_true, decide_eq_true_eq] at he
      rcases he with (he | he) | he
      · exact he r1
      · omega
      · have := r3 he.1; omega
    clear he
    refine And.intro I1 ?_
    refine ⟨((k + 1, s, t) : Nat × Bool × Bool), [], [], mu, ⟨by omega, P.idle, P.fst, fun h0 _ => absurd h0 hd⟩, ?_⟩
    repeat' (first | (refine And.intro ?_ ?_) | (intro _) | exact rfl)
  have hb : ¬ (k : Int) < (bodiesL w.l w.l.n).length := of_decide_eq_false hb
  obtain rfl : k = (bodiesL w.l w.l.n).length := by omega
  have hst : (!t || s) = true := by
    cases ht : t with
    | false => rfl
    | true =>
      have h0 : (blindE w (w.l.e (x.tmod w.l.n).toNat).iD i).1 = 0 := by
        apply Classical.byContradiction
        intro h0
        have := P.idle h0
        rw [ht] at this; cases this
      obtain ⟨j, j1, j2, j3⟩ := P.fst ht
      rcases K.none h0 with c | ⟨m, m1, m2, m3, m4⟩
      · have := c j j1 j2
        rw [j3] at this; cases this
      · rw [P.sm h0 ⟨m, m1, m2, m3, m4⟩]; rfl
  refine Eq.trans (a := true) (b := (!t || s) || false) ?_ rfl
  rw [hst]
  rfl
end Go.Proofs.YtbnoejabpmlmdaaGreatDoor
