/- interp.Between. -/
import Derived.Test.YtjdohgcolhpegaaGreatDoorN0
namespace Go.Proofs.YtjdohgcolhpegaaGreatDoor
open Go.RowKit

noncomputable def inOwnW : FnI cx := ⟨56, Tryz.call56, Tryz.f56, Tryz.func56, [], [], [3], 0, by kernel_rfl⟩
/-- What is known where the ways are not cut. -/
structure BetOk (a b : Wor) (n d : Int) : Prop where
  va : a.Valid
  vb : b.Valid
  t : a.tick < b.tick
  d0 : 1 ≤ d
  d1 : d ≤ 34359738368
  n0 : 0 ≤ n
  nd : n ≤ d
theorem betB_no {a b : Wor} {n d : Int} (h : betB a b n d = false) : BetOk a b n d := by
  unfold betB at h
  simp only [Bool.or_eq_false_iff, Bool.not_eq_false', decide_eq_false_iff_not] at h
  exact ⟨Wor.valid_iff.1 h.1.1.1.1.1.1, Wor.valid_iff.1 h.1.1.1.1.1.2, by omega, by omega, by omega, by omega, by omega⟩
def laterH (b : Wor) : Nat → Int → Bool
  | 0, _ => false
  | k + 1, j => decide (j = (b.l.e k).iD) || laterH b k j
theorem laterH_iff {b : Wor} {j : Int} : ∀ {k : Nat}, laterH b k j = true ↔ ∃ i, i < k ∧ (b.l.e i).iD = j
  | 0 => ⟨fun h => (by cases h), fun ⟨i, h, _⟩ => absurd h (Nat.not_lt_zero _)⟩
  | k + 1 => by
    simp only [laterH, Bool.or_eq_true, decide_eq_true_eq, laterH_iff (k := k)]
    constructor
    · rintro (rfl | ⟨i, h1, h2⟩)
      · exact ⟨k, by omega, rfl⟩
      · exact ⟨i, by omega, h2⟩
    · rintro ⟨i, h1, h2⟩
      rcases Nat.lt_or_ge i k with h | h
      · exact .inr ⟨i, h, h2⟩
      · obtain rfl : i = k := by omega
        exact .inl h2.symm
def laterG (b : Wor) : Int → List SV := fun j => [.v (.int .i64 ((lowB (fun i => (b.l.e i).iD) b.l.n j : Int) + 1))]
theorem low_at {key : Nat → Int} {n k : Nat} (h : Inc key n) (hk : k < n) : lowB key n (key k) = k :=
  lowB_eq (Nat.le_of_lt hk) (fun j hj => h j k hj hk) (fun j h1 h2 => by
    rcases Nat.eq_or_lt_of_le h1 with rfl | h1
    · exact Int.le_refl _
    · exact Int.le_of_lt (h k j h1 h2))
def betH (a b : Wor) (n d : Int) : Heap := [(0, .lay a.cells 25), (1, .lay b.cells 25), (2, .lay [.v (.int .i64 n)] 3), (3, .lay [.v (.int .i64 d)] 3), (4, .lay zeroW 25)]
def mvF : SV := .f (.func 85) [] [.p 2 0, .p 3 0]
def laterC (a b : Wor) (n d : Int) : Cut := ⟨Nat, fun k => k ≤ b.l.n, fun k => ⟨[sl 4 (.p 0 0), sl 5 (.p 1 0), sl 6 (.p 2 0), sl 7 (.p 3 0), sl 8 (.p 4 0), sl 10 mvF, sl 11 (.m 5), sl 63 b.l.sv, sl 64 (i64 b.l.n), sl 65 (i64 k)],
  (5, .mp .i64 false (laterH b k) (laterG b)) :: betH a b n d, 6, 0, [], []⟩, fun k => b.l.n - k⟩
/-- The entities, the first k of which have been moved. -/
def wk (a b : Wor) (n d : Int) (k : Nat) : Ens := ⟨a.l.n, fun i => bif Nat.blt i k then mvE b n d (a.l.e i) else a.l.e i⟩
/-- An entity the first m components of which have been moved. -/
def mv1 (ok : Bool) (t : Vec) (n d : Int) (e : Ent) (m : Nat) : Ent := ⟨e.iD, ⟨e.l.n, fun j => bif Nat.blt j m then (bif ok then moveC t n d (e.l.c j) else e.l.c j) else e.l.c j⟩⟩
def wk3 (a b : Wor) (n d : Int) (ok : Bool) (t : Vec) (k m : Nat) : Ens := ⟨a.l.n, fun i => bif Nat.blt i k then mvE b n d (a.l.e i) else bif Nat.beq i k then mv1 ok t n d (a.l.e i) m else a.l.e i⟩
def betH2 (a b : Wor) (n d : Int) (l : Ens) : Heap := (11, .lay [.v (.int .i64 (Df.lerpI a.tick b.tick n d)), .g 9 10 2 0 a.l.n] 25) :: (9, nstE l a.l.n 10) :: (5, .mp .i64 false (laterH b b.l.n) (laterG b)) :: betH a b n d
def betC2 (a b : Wor) (n d : Int) : Cut := ⟨Nat, fun k => k ≤ a.l.n, fun k => ⟨[sl 5 (.p 1 0), sl 8 (.p 4 0), sl 10 mvF, sl 11 (.m 5), sl 14 (.p 11 0), sl 86 (.g 9 10 2 0 a.l.n), sl 87 (i64 a.l.n), sl 88 (i64 k)],
  betH2 a b n d (wk a b n d k), 12, 0, [], []⟩, fun k => a.l.n - k⟩
def betC3 (a b : Wor) (n d : Int) (ok : Bool) (t : Vec) (k : Nat) : Cut := ⟨Nat, fun m => m ≤ (a.l.e k).l.n, fun m => ⟨[sl 5 (.p 1 0), sl 8 (.p 4 0), sl 10 mvF, sl 11 (.m 5), sl 14 (.p 11 0), sl 86 (.g 9 10 2 0 a.l.n), sl 87 (i64 a.l.n), sl 88 (i64 k),
    sl 16 (.p 12 0), sl 18 (.p 13 0), sl 19 (.v (.bool ok)), sl 110 (i64 (a.l.e k).l.n), sl 111 (i64 m)],
  (13, .lay t.cells 27) :: (12, .lay [.v (.int .i64 (a.l.e k).iD), .kd 9 k 5 0 (a.l.e k).l.n] 35) :: betH2 a b n d (wk3 a b n d ok t k m), 14, 0, [], []⟩, fun m => (a.l.e k).l.n - m⟩
/-- What the map of later entities has. -/
def laterV (b : Wor) (j : Int) : Int := bif laterH b b.l.n j then (lowB (fun i => (b.l.e i).iD) b.l.n j : Int) + 1 else 0
theorem laterV_eq {b : Wor} (hb : b.Valid) {j : Int} : laterV b j = match (findE b j).2 with | true => ((findE b j).1 : Int) + 1 | false => 0 := by
  have hv := Wor.valid_iff.2 hb
  unfold findE
  rw [hv]
  simp only
  unfold laterV
  cases h : hitB (fun i => (b.l.e i).iD) b.l.n j with
  | true =>
    obtain ⟨h1, h2⟩ := hitB_iff.1 h
    rw [laterH_iff.2 ⟨_, h1, h2⟩]; rfl
  | false =>
    cases h' : laterH b b.l.n j with
    | false => rfl
    | true =>
      obtain ⟨i, h1, h2⟩ := laterH_iff.1 h'
      have := low_at hb.inc h1
      subst h2
      have : hitB (fun i => (b.l.e i).iD) b.l.n (b.l.e i).iD = true := hitB_iff.2 ⟨by rw [this]; exact h1, by rw [this]⟩
      rw [this] at h; cases h
theorem mv_id {b : Wor} {n d : Int} {e : Ent} : (mvE b n d e).iD = e.iD := by
  unfold mvE; split <;> (try split) <;> rfl
theorem mv_n {b : Wor} {n d : Int} {e : Ent} : (mvE b n d e).l.n = e.l.n := by
  unfold mvE; split <;> (try split) <;> rfl
theorem wk_id {a b : Wor} {n d : Int} {k i : Nat} : ((wk a b n d k).e i).iD = (a.l.e i).iD := by
  show (bif Nat.blt i k then mvE b n d (a.l.e i) else a.l.e i).iD = _
  cases Nat.blt i k
  · rfl
  · exact mv_id
theorem wk_lo {a b : Wor} {n d : Int} {k i : Nat} (h : k ≤ i) : (wk a b n d k).e i = a.l.e i := by
  show (bif Nat.blt i k then mvE b n d (a.l.e i) else a.l.e i) = _
  rw [show Nat.blt i k = false from by cases e : Nat.blt i k; rfl; exact absurd (Nat.le_of_ble_eq_true e) (by omega)]; rfl
theorem wk_hi {a b : Wor} {n d : Int} {k i : Nat} (h : i < k) : (wk a b n d k).e i = mvE b n d (a.l.e i) := by
  show (bif Nat.blt i k then mvE b n d (a.l.e i) else a.l.e i) = _
  rw [show Nat.blt i k = true from Nat.ble_eq_true_of_le h]; rfl
theorem wk_same {a b : Wor} {n d : Int} {k : Nat} (h : mvE b n d (a.l.e k) = a.l.e k) (i : Nat) : (wk a b n d (k + 1)).e i = (wk a b n d k).e i := by
  rcases Nat.lt_trichotomy i k with h1 | h1 | h1
  · rw [wk_hi (by omega), wk_hi h1]
  · subst h1; rw [wk_hi (by omega), wk_lo (Nat.le_refl _), h]
  · rw [wk_lo (by omega), wk_lo (by omega)]
theorem mv_none {b : Wor} {n d : Int} {e : Ent} (h : (findE b e.iD).2 = false) : mvE b n d e = e := by unfold mvE; rw [h]
theorem wk3_lo {a b : Wor} {n d : Int} {ok : Bool} {t : Vec} {k i m : Nat} (h : i < k) : (wk3 a b n d ok t k m).e i = mvE b n d (a.l.e i) := by
  show (bif Nat.blt i k then mvE b n d (a.l.e i) else _) = _
  rw [show Nat.blt i k = true from Nat.ble_eq_true_of_le h]; rfl
theorem wk3_at {a b : Wor} {n d : Int} {ok : Bool} {t : Vec} {k m : Nat} : (wk3 a b n d ok t k m).e k = mv1 ok t n d (a.l.e k) m := by
  show (bif Nat.blt k k then mvE b n d (a.l.e k) else bif Nat.beq k k then mv1 ok t n d (a.l.e k) m else a.l.e k) = _
  rw [show Nat.blt k k = false from by cases e : Nat.blt k k; rfl; exact absurd (Nat.le_of_ble_eq_true e) (by omega), Nat.beq_refl]; rfl
theorem wk3_hi {a b : Wor} {n d : Int} {ok : Bool} {t : Vec} {k i m : Nat} (h : k < i) : (wk3 a b n d ok t k m).e i = a.l.e i := by
  show (bif Nat.blt i k then mvE b n d (a.l.e i) else bif Nat.beq i k then mv1 ok t n d (a.l.e i) m else a.l.e i) = _
  rw [show Nat.blt i k = false from by cases e : Nat.blt i k; rfl; exact absurd (Nat.le_of_ble_eq_true e) (by omega), beq_no (by omega)]; rfl
theorem ent_ext {e f : Ent} (h1 : e.iD = f.iD) (h2 : e.l.n = f.l.n) (h3 : ∀ j, e.l.c j = f.l.c j) : e = f := by
  obtain ⟨x, y, z⟩ := e
  obtain ⟨x', y', z'⟩ := f
  simp only at h1 h2 h3
  subst h1 h2
  rw [show z = z' from funext h3]
theorem wk3_0 {a b : Wor} {n d : Int} {ok : Bool} {t : Vec} {k : Nat} (i : Nat) : (wk3 a b n d ok t k 0).e i = (wk a b n d k).e i := by
  rcases Nat.lt_trichotomy i k with h1 | h1 | h1
  · rw [wk3_lo h1, wk_hi h1]
  · subst h1
    rw [wk3_at, wk_lo (Nat.le_refl _)]
    exact ent_ext rfl rfl fun j => rfl
  · rw [wk3_hi h1, wk_lo (by omega)]
/-- What is found later, up to what lies outside of the lists. -/
def Ent.Same (e f : Ent) : Prop := e.iD = f.iD ∧ e.l.n = f.l.n ∧ ∀ j, j < f.l.n → e.l.c j = f.l.c j
theorem wk3_end {a b : Wor} {n d : Int} {k : Nat} (h : (findE b (a.l.e k).iD).2 = true) (i : Nat) : ((wk a b n d (k + 1)).e i).Same ((wk3 a b n d (pointF (b.l.e (findE b (a.l.e k).iD).1)).2 (pointF (b.l.e (findE b (a.l.e k).iD).1)).1 k (a.l.e k).l.n).e i) := by
  rcases Nat.lt_trichotomy i k with h1 | h1 | h1
  · rw [wk3_lo h1, wk_hi (by omega)]; exact ⟨rfl, rfl, fun j _ => rfl⟩
  · subst h1
    rw [wk3_at, wk_hi (by omega)]
    unfold mvE
    rw [h]
    cases ho : (pointF (b.l.e (findE b (a.l.e i).iD).1)).2 with
    | false => exact ⟨rfl, rfl, fun j hj => by show _ = bif Nat.blt j (a.l.e i).l.n then (a.l.e i).l.c j else (a.l.e i).l.c j; cases Nat.blt j (a.l.e i).l.n <;> rfl⟩
    | true => exact ⟨rfl, rfl, fun j hj => by
        show _ = bif Nat.blt j (a.l.e i).l.n then moveC (pointF (b.l.e (findE b (a.l.e i).iD).1)).1 n d ((a.l.e i).l.c j) else (a.l.e i).l.c j
        rw [show Nat.blt j (a.l.e i).l.n = true from Nat.ble_eq_true_of_le hj]; rfl⟩
  · rw [wk3_hi h1, wk_lo (by omega)]; exact ⟨rfl, rfl, fun j _ => rfl⟩
theorem blt_no {i k : Nat} (h : k ≤ i) : Nat.blt i k = false := by
  cases e : Nat.blt i k
  · rfl
  · exact absurd (Nat.le_of_ble_eq_true e) (by omega)
theorem mv1_at {ok : Bool} {t : Vec} {n d : Int} {e : Ent} {m : Nat} : (mv1 ok t n d e m).l.c m = e.l.c m := by
  show (bif Nat.blt m m then _ else e.l.c m) = _
  rw [blt_no (Nat.le_refl _)]; rfl
theorem mv1_suc {ok : Bool} {t : Vec} {n d : Int} {e : Ent} {m j : Nat} : (mv1 ok t n d e (m + 1)).l.c j = bif Nat.beq j m then (bif ok then moveC t n d (e.l.c m) else e.l.c m) else (mv1 ok t n d e m).l.c j := by
  show (bif Nat.blt j (m + 1) then (bif ok then moveC t n d (e.l.c j) else e.l.c j) else e.l.c j) = bif Nat.beq j m then (bif ok then moveC t n d (e.l.c m) else e.l.c m) else (bif Nat.blt j m then (bif ok then moveC t n d (e.l.c j) else e.l.c j) else e.l.c j)
  rcases Nat.lt_trichotomy j m with h | h | h
  · rw [show Nat.blt j (m + 1) = true from Nat.ble_eq_true_of_le (by omega), show Nat.blt j m = true from Nat.ble_eq_true_of_le h, beq_no (by omega)]; rfl
  · subst h; rw [show Nat.blt j (j + 1) = true from Nat.ble_eq_true_of_le (by omega), Nat.beq_refl]; rfl
  · rw [blt_no (by omega), blt_no (by omega), beq_no (by omega)]; rfl
theorem wk3_same {a b : Wor} {n d : Int} {ok : Bool} {t : Vec} {k m : Nat} (h : (ok && decide (((a.l.e k).l.c m).kind = 1)) = false) (i : Nat) : (wk3 a b n d ok t k (m + 1)).e i = (wk3 a b n d ok t k m).e i := by
  rcases Nat.lt_trichotomy i k with h1 | h1 | h1
  · rw [wk3_lo h1, wk3_lo h1]
  · subst h1
    rw [wk3_at, wk3_at]
    refine ent_ext rfl rfl fun j => ?_
    rw [mv1_suc]
    by_cases hj : j = m
    · subst hj
      rw [Nat.beq_refl, mv1_at]
      cases ok with
      | false => rfl
      | true =>
        show moveC t n d ((a.l.e i).l.c j) = _
        unfold moveC
        rw [Bool.true_and] at h
        rw [h]
    · rw [beq_no hj]; rfl
  · rw [wk3_hi h1, wk3_hi h1]
theorem wk3_step {a b : Wor} {n d : Int} {t : Vec} {k m : Nat} (h : ((a.l.e k).l.c m).kind = 1) (i j : Nat) : ((wk3 a b n d true t k (m + 1)).e i).l.c j = bif andQ (Nat.beq i k) (Nat.beq j m) then ⟨((a.l.e k).l.c m).kind, Df.lerpI ((a.l.e k).l.c m).v0 t.x n d, Df.lerpI ((a.l.e k).l.c m).v1 t.y n d, ((a.l.e k).l.c m).v2, ((a.l.e k).l.c m).v3⟩ else ((wk3 a b n d true t k m).e i).l.c j := by
  rcases Nat.lt_trichotomy i k with h1 | h1 | h1
  · rw [wk3_lo h1, wk3_lo h1, beq_no (by omega)]; rfl
  · subst h1
    rw [wk3_at, wk3_at, mv1_suc, Nat.beq_refl]
    show (bif Nat.beq j m then moveC t n d ((a.l.e i).l.c m) else _) = bif Nat.beq j m then _ else _
    unfold moveC
    rw [decide_eq_true h]
  · rw [wk3_hi h1, wk3_hi h1, beq_no (by omega)]; rfl
theorem wk3_id {a b : Wor} {n d : Int} {ok : Bool} {t : Vec} {k i m : Nat} : ((wk3 a b n d ok t k (m + 1)).e i).iD = ((wk3 a b n d ok t k m).e i).iD := by
  rcases Nat.lt_trichotomy i k with h1 | h1 | h1
  · rw [wk3_lo h1, wk3_lo h1]
  · subst h1; rw [wk3_at, wk3_at]; rfl
  · rw [wk3_hi h1, wk3_hi h1]
theorem wk3_n {a b : Wor} {n d : Int} {ok : Bool} {t : Vec} {k i m : Nat} : ((wk3 a b n d ok t k (m + 1)).e i).l.n = ((wk3 a b n d ok t k m).e i).l.n := by
  rcases Nat.lt_trichotomy i k with h1 | h1 | h1
  · rw [wk3_lo h1, wk3_lo h1]
  · subst h1; rw [wk3_at, wk3_at]; rfl
  · rw [wk3_hi h1, wk3_hi h1]
theorem bb1 {A A0 : Bool} {x y x' z : Int} (h0 : A0 = true) : (bif A then x else z) = bif A then (bif A0 then x else y) else (bif A then x' else z) := by subst h0; cases A <;> rfl
theorem bb2 {A : Bool} {x x' z : Int} : (bif A then x else z) = bif A then x else (bif A then x' else z) := by cases A <;> rfl
theorem pointF_rng {e : Ent} (h : e.Right) : -1048576 ≤ (pointF e).1.x ∧ (pointF e).1.x ≤ 1048576 ∧ -1048576 ≤ (pointF e).1.y ∧ (pointF e).1.y ≤ 1048576 := by
  have hle := ixN_le (g := fun i => decide ((e.l.c i).kind = 1)) (r := e.l.n) (k := 0)
  by_cases hx : ixN (fun i => decide ((e.l.c i).kind = 1)) 0 e.l.n < e.l.n
  · have hk := ixN_hit (g := fun i => decide ((e.l.c i).kind = 1)) (r := e.l.n) (k := 0) (by omega)
    have hk : (e.l.c (ixN (fun i => decide ((e.l.c i).kind = 1)) 0 e.l.n)).kind = 1 := of_decide_eq_true hk
    have ec := cmpF_yes (l := e.l) (q := 1) rfl hx
    have ep : (pointF e).1 = ⟨(e.l.c (ixN (fun i => decide ((e.l.c i).kind = 1)) 0 e.l.n)).v0, (e.l.c (ixN (fun i => decide ((e.l.c i).kind = 1)) 0 e.l.n)).v1⟩ := by unfold pointF; rw [ec]
    rw [ep]
    obtain ⟨a1, a2, a3, a4, -⟩ := (h.fits _ hx).2.2.1 hk
    exact ⟨a1, a2, a3, a4⟩
  · have ec := cmpF_none (l := e.l) (q := 1) (by omega)
    have ep : (pointF e).1 = ⟨0, 0⟩ := by unfold pointF; rw [ec]; rfl
    rw [ep]
    exact ⟨(by decide), (by decide), (by decide), (by decide)⟩
set_option maxHeartbeats 8000000 in
set_option maxRecDepth 8000 in
theorem Betw_walk : ∀ a, conj ((fun (a : Wor × Wor × Int × Int) => [a.1.l.Sm, a.2.1.l.Sm]) a) → evFn (C := cx) [conWValid, conCloneO, conBt1, conPosn] [inOwnW] 1 ⟨[25], [], [8, 15, 21], 0⟩ Tryz.f57 ((rds4 rdWor rdWor (rdI .i64) (rdI .i64)).enc a) fun v H _ => resOut ((fun a => .tup [(betwE a.1 a.2.1 a.2.2.1 a.2.2.2).1.sv, .v (.int .i64 (betwE a.1 a.2.1 a.2.2.1 a.2.2.2).2)]) a) H v := by
  intro ⟨a, b, n, d⟩ ⟨ha, hbS⟩
  replace ha : a.l.Sm := ha
  replace hbS : b.l.Sm := hbS
  refine And.intro ⟨fun _ _ _ _ => trivial, ha⟩ ?_
  refine And.intro (fun _ => ⟨fun _ _ _ _ => trivial, hbS⟩) ?_
  refine And.intro (fun hv => ?_) (fun hv => ?_)
  · have hv : betB a b n d = true := hv
    have e : betwE a b n d = (Wor.no, 2) := by unfold betwE; rw [hv]
    simp only [e]
    repeat' (first | (refine And.intro ?_ ?_) | (intro _) | exact rfl)
    all_goals exact absurd ‹_ < 0› (Nat.not_lt_zero _)
  have hv : betB a b n d = false := hv
  have hO := betB_no hv
  obtain ⟨a1, a2⟩ := hO.va.two
  obtain ⟨b1, b2⟩ := hO.vb.two
  have hwa : a.l.n ≤ 1000 ∧ ∀ i, i < a.l.n → (a.l.e i).l.n ≤ 1000 := ⟨by omega, fun i hi => by have := a2 i hi; omega⟩
  have hwb : b.l.n ≤ 1000 ∧ ∀ i, i < b.l.n → (b.l.e i).l.n ≤ 1000 := ⟨by omega, fun i hi => by have := b2 i hi; omega⟩
  refine And.intro (fun hc => ?_) (fun hc => ?_)
  · have hc : decide (n = d) = true := hc
    have e : betwE a b n d = (b, 0) := by unfold betwE; rw [hv, hc]
    simp only [e]
    refine Exists.intro (copC b 5 (betH a b n d)) ?_
    refine And.intro ?_ ?_
    · refine ⟨(0 : Nat), [], [.cellN 7 1 2 1 5 46 35], trivial, Nat.zero_le _, ?_⟩
      repeat' (first | (refine And.intro ?_ ?_) | (intro _) | exact rfl)
      all_goals exact absurd ‹_ < 0› (Nat.not_lt_zero _)
    refine fun (k : Nat) (hk : k ≤ b.l.n) => ?_
    refine And.intro (fun hb => ?_) (fun hb => ?_)
    · have hb : (k : Int) < b.l.n := of_decide_eq_true hb
      refine And.intro ⟨by omega, by omega⟩ ?_
      refine And.intro ⟨fun _ _ => trivial, (by have := hwb.2 k (by omega); (show (b.l.e k).l.n ≤ 1000); omega)⟩ ?_
      have hfit : fitO (k + 1) 32 := ⟨Nat.le_trans (by have := hwb.1; omega : k + 1 ≤ 1001) (by decide), by have := hwb.1; omega⟩
      refine And.intro ⟨hfit, ?_⟩ ?_
      · repeat' (first | (refine And.intro ?_ ?_) | (intro _) | exact rfl)
      refine And.intro (by have := hwb.1; unfold I64; omega : I64 ((k : Int) + 1)) ?_
      refine ⟨k + 1, [(9, 13)], [.absorb 8], (by show b.l.n - (k + 1) < b.l.n - k; omega), (by omega : k + 1 ≤ b.l.n), ?_⟩
      repeat' (first | (refine And.intro ?_ ?_) | (intro _) | exact rfl)
      · refine putF_al (α := List SV) (p := fun i y => conjO (vqL 10 [(9, 13)] (List.set [SV.v (Value.int IntKind.i64 (b.l.e i).iD), SV.e] 1 SV.e) (y.set 1 SV.e))) ?_ ?_ _ ‹_›
        · exact rfl
        · exact fun i _ => rfl
      · refine putF_al (α := Nat × (Nat → List SV)) (p := fun i y => (b.l.e i).l.n = y.1) ?_ ?_ _ ‹_›
        · exact rfl
        · exact fun i _ => rfl
      · refine putF_al (α := Nat × (Nat → List SV)) (p := fun i y => ∀ j, j < y.1 → conjO (vqL 10 [(9, 13)] ((b.l.e i).l.c j).cells (y.2 j))) ?_ ?_ _ ‹_› _ ‹_›
        · exact fun j _ => ⟨rfl, rfl, rfl, rfl, rfl⟩
        · exact fun i _ j _ => ⟨rfl, rfl, rfl, rfl, rfl⟩
    have hb : ¬ (k : Int) < b.l.n := of_decide_eq_false hb
    obtain rfl : k = b.l.n := by omega
    repeat' (first | (refine And.intro ?_ ?_) | (intro _) | exact rfl)
    all_goals first | (show (_ : Int) = _; rw [Nat.zero_add]; done) | (show (_ : Nat) = _; rw [Nat.zero_add]; done) | (show (_ : Nat) = _; rw [Nat.zero_add]; rfl)
  have hc : decide (n = d) = false := hc
  have e : betwE a b n d = (⟨Df.lerpI a.tick b.tick n d, ⟨a.l.n, fun i => mvE b n d (a.l.e i)⟩⟩, 0) := by unfold betwE; rw [hv, hc]
  simp only [e]
  refine Exists.intro (laterC a b n d) ?_
  refine And.intro ?_ ?_
  · refine ⟨(0 : Nat), [], [], trivial, Nat.zero_le _, ?_⟩
    repeat' (first | (refine And.intro ?_ ?_) | (intro _) | exact rfl)
    all_goals exact (Bool.false_ne_true ‹_›).elim
  refine fun (k : Nat) (hk : k ≤ b.l.n) => ?_
  refine And.intro (fun hb => ?_) (fun hb => ?_)
  · have hb : (k : Int) < b.l.n := of_decide_eq_true hb
    refine And.intro ⟨by omega, by omega⟩ ?_
    have o1 : I64 ((k : Int) + 1) := by unfold I64; omega
    refine And.intro o1 ?_
    refine And.intro ?_ ?_
    · repeat' (first | (refine And.intro ?_ ?_) | (intro _) | exact rfl | exact trivial)
    refine And.intro o1 ?_
    refine ⟨k + 1, [], [], (by show b.l.n - (k + 1) < b.l.n - k; omega), (by omega : k + 1 ≤ b.l.n), ?_⟩
    repeat' (first | (refine And.intro ?_ ?_) | (intro _) | exact rfl)
    rename_i j _
    show (lowB (fun i => (b.l.e i).iD) b.l.n j : Int) + 1 = bif decide (j = (b.l.e k).iD) then (k : Int) + 1 else (lowB (fun i => (b.l.e i).iD) b.l.n j : Int) + 1
    by_cases hj : j = (b.l.e k).iD
    · rw [decide_eq_true hj, cond_true, hj, low_at hO.vb.inc (by omega)]
    · rw [decide_eq_false hj, cond_false]
  · have hb : ¬ (k : Int) < b.l.n := of_decide_eq_false hb
    obtain rfl : k = b.l.n := by omega
    refine Exists.intro (copC a 6 ((5, .mp .i64 false (laterH b b.l.n) (laterG b)) :: betH a b n d)) ?_
    refine And.intro ?_ ?_
    · refine ⟨(0 : Nat), [], [.cellN 8 1 2 1 5 46 35], trivial, Nat.zero_le _, ?_⟩
      repeat' (first | (refine And.intro ?_ ?_) | (intro _) | exact rfl)
      all_goals exact absurd ‹_ < 0› (Nat.not_lt_zero _)
    refine fun (k : Nat) (hk : k ≤ a.l.n) => ?_
    refine And.intro (fun hb => ?_) (fun hb => ?_)
    · have hb : (k : Int) < a.l.n := of_decide_eq_true hb
      refine And.intro ⟨by omega, by omega⟩ ?_
      refine And.intro ⟨fun _ _ => trivial, (by have := hwa.2 k (by omega); (show (a.l.e k).l.n ≤ 1000); omega)⟩ ?_
      have hfit : fitO (k + 1) 32 := ⟨Nat.le_trans (by have := hwa.1; omega : k + 1 ≤ 1001) (by decide), by have := hwa.1; omega⟩
      refine And.intro ⟨hfit, ?_⟩ ?_
      · repeat' (first | (refine And.intro ?_ ?_) | (intro _) | exact rfl)
      refine And.intro (by have := hwa.1; unfold I64; omega : I64 ((k : Int) + 1)) ?_
      refine ⟨k + 1, [(10, 14)], [.absorb 9], (by show a.l.n - (k + 1) < a.l.n - k; omega), (by omega : k + 1 ≤ a.l.n), ?_⟩
      repeat' (first | (refine And.intro ?_ ?_) | (intro _) | exact rfl)
      · refine putF_al (α := List SV) (p := fun i y => conjO (vqL 11 [(10, 14)] (List.set [SV.v (Value.int IntKind.i64 (a.l.e i).iD), SV.e] 1 SV.e) (y.set 1 SV.e))) ?_ ?_ _ ‹_›
        · exact rfl
        · exact fun i _ => rfl
      · refine putF_al (α := Nat × (Nat → List SV)) (p := fun i y => (a.l.e i).l.n = y.1) ?_ ?_ _ ‹_›
        · exact rfl
        · exact fun i _ => rfl
      · refine putF_al (α := Nat × (Nat → List SV)) (p := fun i y => ∀ j, j < y.1 → conjO (vqL 11 [(10, 14)] ((a.l.e i).l.c j).cells (y.2 j))) ?_ ?_ _ ‹_› _ ‹_›
        · exact fun j _ => ⟨rfl, rfl, rfl, rfl, rfl⟩
        · exact fun i _ j _ => ⟨rfl, rfl, rfl, rfl, rfl⟩
    have hb : ¬ (k : Int) < a.l.n := of_decide_eq_false hb
    obtain rfl : k = a.l.n := by omega
    have hL : Df.LerpOk a.tick b.tick n d := ⟨by have := hO.va.lo; omega, by have := hO.va.hi; omega, by have := hO.vb.lo; omega, by have := hO.vb.hi; omega, by have := hO.va.lo; have := hO.vb.hi; omega, by have := hO.t; omega, hO.n0, hO.nd, hO.d0, hO.d1⟩
    refine And.intro ⟨hL, ⟨n, rfl⟩, ⟨d, rfl⟩⟩ ?_
    refine Exists.intro (betC2 a b n d) ?_
    refine And.intro ?_ ?_
    · refine ⟨(0 : Nat), [], [], trivial, Nat.zero_le _, ?_⟩
      repeat' (first | (refine And.intro ?_ ?_) | (intro _) | exact rfl)
      all_goals first | exact (congrArg Ent.iD (hs _ ‹_›)).symm | exact (congrArg (fun e : Ent => e.l.n) (hs _ ‹_›)).symm | exact (congrArg (fun e : Ent => (e.l.c _).kind) (hs _ ‹_ < a.l.n›)).symm | exact (congrArg (fun e : Ent => (e.l.c _).v0) (hs _ ‹_ < a.l.n›)).symm | exact (congrArg (fun e : Ent => (e.l.c _).v1) (hs _ ‹_ < a.l.n›)).symm | exact (congrArg (fun e : Ent => (e.l.c _).v2) (hs _ ‹_ < a.l.n›)).symm | exact (congrArg (fun e : Ent => (e.l.c _).v3) (hs _ ‹_ < a.l.n›)).symm
    refine fun (k : Nat) (hk : k ≤ a.l.n) => ?_
    refine And.intro (fun hb => ?_) (fun hb => ?_)
    · have hb : (k : Int) < a.l.n := of_decide_eq_true hb
      refine And.intro ⟨by omega, by omega⟩ ?_
      refine And.intro ?_ ?_
      · repeat' (first | (refine And.intro ?_ ?_) | (intro _) | exact rfl | exact trivial)
      have hID : ((wk a b n d k).e (0 + k)).iD = (a.l.e k).iD := by rw [Nat.zero_add, wk_id]
      have hV : laterV b (((wk a b n d k).e (0 + k)).iD) = match (findE b (a.l.e k).iD).2 with | true => ((findE b (a.l.e k).iD).1 : Int) + 1 | false => 0 := by rw [hID, laterV_eq hO.vb]
      have hk2 : a.l.n - (k + 1) < a.l.n - k := by omega
      have hk3 : k + 1 ≤ a.l.n := by omega
      refine And.intro (fun hi => ?_) (fun hi => ?_)
      · have hi : decide (laterV b (((wk a b n d k).e (0 + k)).iD) = 0) = true := hi
        have hf : (findE b (a.l.e k).iD).2 = false := by
          cases hf : (findE b (a.l.e k).iD).2 with
          | false => rfl
          | true => rw [hf] at hV; simp only at hV; have := of_decide_eq_true hi; omega
        have hs := wk_same (mv_none (n := n) (d := d) hf)
        refine And.intro (by unfold I64; omega : I64 ((k : Int) + 1)) ?_
        refine ⟨k + 1, [], [], hk2, hk3, ?_⟩
        repeat' (first | (refine And.intro ?_ ?_) | (intro _) | exact rfl)
        all_goals first | exact congrArg (fun e : Ent => e.iD) (hs _) | exact congrArg (fun e : Ent => e.l.n) (hs _) | exact congrArg (fun e : Ent => (e.l.c _).kind) (hs _) | exact congrArg (fun e : Ent => (e.l.c _).v0) (hs _) | exact congrArg (fun e : Ent => (e.l.c _).v1) (hs _) | exact congrArg (fun e : Ent => (e.l.c _).v2) (hs _) | exact congrArg (fun e : Ent => (e.l.c _).v3) (hs _)
      · have hi : decide (laterV b (((wk a b n d k).e (0 + k)).iD) = 0) = false := hi
        have hf : (findE b (a.l.e k).iD).2 = true := by
          cases hf : (findE b (a.l.e k).iD).2 with
          | true => rfl
          | false => rw [hf] at hV; exact absurd hV (of_decide_eq_false hi)
        rw [hf] at hV
        simp only at hV
        obtain ⟨-, g2, g3⟩ := find_hit hf
        have o1 : I64 (laterV b (((wk a b n d k).e (0 + k)).iD) - 1) := by rw [hV]; unfold I64; omega
        have o2 : 0 ≤ laterV b (((wk a b n d k).e (0 + k)).iD) - 1 ∧ laterV b (((wk a b n d k).e (0 + k)).iD) - 1 < b.l.n := by rw [hV]; omega
        have eb : b.l.e (laterV b (((wk a b n d k).e (0 + k)).iD) - 1).toNat = b.l.e (findE b (a.l.e k).iD).1 := by
          rw [hV]; congr 1; omega
        have o3 : ((b.l.e (laterV b (((wk a b n d k).e (0 + k)).iD) - 1).toNat).l.n : Int) ≤ bigN := by
          rw [eb]; exact (hbS.2 _ g2).1
        refine And.intro o1 ?_
        refine And.intro o2 ?_
        refine And.intro ⟨fun _ _ => trivial, o3⟩ ?_
        refine Exists.intro (betC3 a b n d (pointF (b.l.e (laterV b (((wk a b n d k).e (0 + k)).iD) - 1).toNat)).2 (pointF (b.l.e (laterV b (((wk a b n d k).e (0 + k)).iD) - 1).toNat)).1 k) ?_
        refine And.intro ?_ ?_
        · refine ⟨(0 : Nat), [], [], trivial, Nat.zero_le _, ?_⟩
          have hs := fun i => wk3_0 (a := a) (b := b) (n := n) (d := d) (ok := (pointF (b.l.e (laterV b (((wk a b n d k).e (0 + k)).iD) - 1).toNat)).2) (t := (pointF (b.l.e (laterV b (((wk a b n d k).e (0 + k)).iD) - 1).toNat)).1) (k := k) i
          have e1 : (wk a b n d k).e (0 + k) = a.l.e k := by rw [Nat.zero_add, wk_lo (Nat.le_refl _)]
          repeat' (first | (refine And.intro ?_ ?_) | (intro _) | exact rfl)
          all_goals first | exact congrArg (fun e : Ent => e.iD) (hs _) | exact congrArg (fun e : Ent => e.l.n) (hs _) | exact congrArg (fun e : Ent => (e.l.c _).kind) (hs _) | exact congrArg (fun e : Ent => (e.l.c _).v0) (hs _) | exact congrArg (fun e : Ent => (e.l.c _).v1) (hs _) | exact congrArg (fun e : Ent => (e.l.c _).v2) (hs _) | exact congrArg (fun e : Ent => (e.l.c _).v3) (hs _) | exact congrArg (fun e : Ent => (e.l.n : Int)) e1.symm | exact congrArg Ent.iD e1.symm | exact (Nat.zero_add k).symm | exact congrArg (fun e : Ent => e.l.n) e1.symm
        refine fun (m : Nat) (hm : m ≤ (a.l.e k).l.n) => ?_
        refine And.intro (fun hb => ?_) (fun hb => ?_)
        · have hb : (m : Int) < (a.l.e k).l.n := of_decide_eq_true hb
          refine And.intro ⟨by omega, by omega⟩ ?_
          have ec : ((wk3 a b n d (pointF (b.l.e (laterV b (((wk a b n d k).e (0 + k)).iD) - 1).toNat)).2 (pointF (b.l.e (laterV b (((wk a b n d k).e (0 + k)).iD) - 1).toNat)).1 k m).e k).l.c (0 + m) = (a.l.e k).l.c m := by rw [Nat.zero_add m, wk3_at]; exact mv1_at
          have o4 : I64 ((m : Int) + 1) := by have := hwa.2 k (by omega); unfold I64; omega
          have hm2 : (a.l.e k).l.n - (m + 1) < (a.l.e k).l.n - m := by omega
          have hm3 : m + 1 ≤ (a.l.e k).l.n := by omega
          refine And.intro (fun hc => ?_) (fun hc => ?_)
          · have hc : ((pointF (b.l.e (laterV b (((wk a b n d k).e (0 + k)).iD) - 1).toNat)).2 && decide ((((wk3 a b n d (pointF (b.l.e (laterV b (((wk a b n d k).e (0 + k)).iD) - 1).toNat)).2 (pointF (b.l.e (laterV b (((wk a b n d k).e (0 + k)).iD) - 1).toNat)).1 k m).e k).l.c (0 + m)).kind = 1)) = true := hc
            obtain ⟨hc1, hc2⟩ := Bool.and_eq_true_iff.1 hc
            have hc2 := of_decide_eq_true hc2
            have fc := (hO.va.right k (by omega)).fits m (by omega)
            rw [← ec] at fc
            obtain ⟨x0, x1, y0, y1, -⟩ := fc.2.2.1 hc2
            obtain ⟨p0, p1, p2, p3⟩ := pointF_rng (e := b.l.e (laterV b (((wk a b n d k).e (0 + k)).iD) - 1).toNat) (by rw [eb]; exact hO.vb.right _ g2)
            have l0 : Df.LerpOk (((wk3 a b n d (pointF (b.l.e (laterV b (((wk a b n d k).e (0 + k)).iD) - 1).toNat)).2 (pointF (b.l.e (laterV b (((wk a b n d k).e (0 + k)).iD) - 1).toNat)).1 k m).e k).l.c (0 + m)).v0 (pointF (b.l.e (laterV b (((wk a b n d k).e (0 + k)).iD) - 1).toNat)).1.x n d := ⟨by omega, by omega, by omega, by omega, by omega, by omega, hO.n0, hO.nd, hO.d0, hO.d1⟩
            have l1 : Df.LerpOk (((wk3 a b n d (pointF (b.l.e (laterV b (((wk a b n d k).e (0 + k)).iD) - 1).toNat)).2 (pointF (b.l.e (laterV b (((wk a b n d k).e (0 + k)).iD) - 1).toNat)).1 k m).e k).l.c (0 + m)).v1 (pointF (b.l.e (laterV b (((wk a b n d k).e (0 + k)).iD) - 1).toNat)).1.y n d := ⟨by omega, by omega, by omega, by omega, by omega, by omega, hO.n0, hO.nd, hO.d0, hO.d1⟩
            refine And.intro ⟨l0, ⟨n, rfl⟩, ⟨d, rfl⟩⟩ ?_
            refine And.intro ⟨l1, ⟨n, rfl⟩, ⟨d, rfl⟩⟩ ?_
            refine And.intro ?_ ?_
            · repeat' (first | (refine And.intro ?_ ?_) | (intro _) | exact rfl | exact trivial)
            refine And.intro ?_ ?_
            · repeat' (first | (refine And.intro ?_ ?_) | (intro _) | exact rfl | exact trivial)
            refine And.intro o4 ?_
            refine ⟨m + 1, [], [], hm2, hm3, ?_⟩
            have st : ∀ i j, ((wk3 a b n d (pointF (b.l.e (laterV b (((wk a b n d k).e (0 + k)).iD) - 1).toNat)).2 (pointF (b.l.e (laterV b (((wk a b n d k).e (0 + k)).iD) - 1).toNat)).1 k (m + 1)).e i).l.c j = bif andQ (Nat.beq i k) (Nat.beq j (0 + m)) then ⟨(((wk3 a b n d (pointF (b.l.e (laterV b (((wk a b n d k).e (0 + k)).iD) - 1).toNat)).2 (pointF (b.l.e (laterV b (((wk a b n d k).e (0 + k)).iD) - 1).toNat)).1 k m).e k).l.c (0 + m)).kind, Df.lerpI (((wk3 a b n d (pointF (b.l.e (laterV b (((wk a b n d k).e (0 + k)).iD) - 1).toNat)).2 (pointF (b.l.e (laterV b (((wk a b n d k).e (0 + k)).iD) - 1).toNat)).1 k m).e k).l.c (0 + m)).v0 (pointF (b.l.e (laterV b (((wk a b n d k).e (0 + k)).iD) - 1).toNat)).1.x n d, Df.lerpI (((wk3 a b n d (pointF (b.l.e (laterV b (((wk a b n d k).e (0 + k)).iD) - 1).toNat)).2 (pointF (b.l.e (laterV b (((wk a b n d k).e (0 + k)).iD) - 1).toNat)).1 k m).e k).l.c (0 + m)).v1 (pointF (b.l.e (laterV b (((wk a b n d k).e (0 + k)).iD) - 1).toNat)).1.y n d, (((wk3 a b n d (pointF (b.l.e (laterV b (((wk a b n d k).e (0 + k)).iD) - 1).toNat)).2 (pointF (b.l.e (laterV b (((wk a b n d k).e (0 + k)).iD) - 1).toNat)).1 k m).e k).l.c (0 + m)).v2, (((wk3 a b n d (pointF (b.l.e (laterV b (((wk a b n d k).e (0 + k)).iD) - 1).toNat)).2 (pointF (b.l.e (laterV b (((wk a b n d k).e (0 + k)).iD) - 1).toNat)).1 k m).e k).l.c (0 + m)).v3⟩ else ((wk3 a b n d (pointF (b.l.e (laterV b (((wk a b n d k).e (0 + k)).iD) - 1).toNat)).2 (pointF (b.l.e (laterV b (((wk a b n d k).e (0 + k)).iD) - 1).toNat)).1 k m).e i).l.c j := fun i j => by
              rw [ec] at hc2 ⊢
              rw [hc1, Nat.zero_add m]
              exact wk3_step hc2 i j
            have hi1 := fun i => wk3_id (a := a) (b := b) (n := n) (d := d) (ok := (pointF (b.l.e (laterV b (((wk a b n d k).e (0 + k)).iD) - 1).toNat)).2) (t := (pointF (b.l.e (laterV b (((wk a b n d k).e (0 + k)).iD) - 1).toNat)).1) (k := k) (m := m) (i := i)
            have hn1 := fun i => wk3_n (a := a) (b := b) (n := n) (d := d) (ok := (pointF (b.l.e (laterV b (((wk a b n d k).e (0 + k)).iD) - 1).toNat)).2) (t := (pointF (b.l.e (laterV b (((wk a b n d k).e (0 + k)).iD) - 1).toNat)).1) (k := k) (m := m) (i := i)
            have hA : andQ (Nat.beq k k) (Nat.beq (0 + m) (0 + m)) = true := by rw [Nat.beq_refl, Nat.beq_refl]; rfl
            repeat' (first | (refine And.intro ?_ ?_) | (intro _) | exact rfl)
            · exact hi1 _
            · exact hn1 _
            · exact ((congrArg Comp.kind (st _ _)).trans (apply_bif Comp.kind)).trans (bb1 hA)
            · exact ((congrArg Comp.v0 (st _ _)).trans (apply_bif Comp.v0)).trans (bb1 hA)
            · exact ((congrArg Comp.v1 (st _ _)).trans (apply_bif Comp.v1)).trans bb2
            · exact ((congrArg Comp.v2 (st _ _)).trans (apply_bif Comp.v2)).trans (bb1 hA)
            · exact ((congrArg Comp.v3 (st _ _)).trans (apply_bif Comp.v3)).trans (bb1 hA)
          · have hc : ((pointF (b.l.e (laterV b (((wk a b n d k).e (0 + k)).iD) - 1).toNat)).2 && decide ((((wk3 a b n d (pointF (b.l.e (laterV b (((wk a b n d k).e (0 + k)).iD) - 1).toNat)).2 (pointF (b.l.e (laterV b (((wk a b n d k).e (0 + k)).iD) - 1).toNat)).1 k m).e k).l.c (0 + m)).kind = 1)) = false := hc
            refine And.intro o4 ?_
            refine ⟨m + 1, [], [], hm2, hm3, ?_⟩
            rw [ec] at hc
            have hs := wk3_same (a := a) (b := b) (n := n) (d := d) (t := (pointF (b.l.e (laterV b (((wk a b n d k).e (0 + k)).iD) - 1).toNat)).1) (k := k) (m := m) hc
            repeat' (first | (refine And.intro ?_ ?_) | (intro _) | exact rfl)
            all_goals first | exact congrArg (fun e : Ent => e.iD) (hs _) | exact congrArg (fun e : Ent => e.l.n) (hs _) | exact congrArg (fun e : Ent => (e.l.c _).kind) (hs _) | exact congrArg (fun e : Ent => (e.l.c _).v0) (hs _) | exact congrArg (fun e : Ent => (e.l.c _).v1) (hs _) | exact congrArg (fun e : Ent => (e.l.c _).v2) (hs _) | exact congrArg (fun e : Ent => (e.l.c _).v3) (hs _)
        · have hb : ¬ (m : Int) < (a.l.e k).l.n := of_decide_eq_false hb
          obtain rfl : m = (a.l.e k).l.n := by omega
          refine And.intro (by unfold I64; omega : I64 ((k : Int) + 1)) ?_
          refine ⟨k + 1, [], [], hk2, hk3, ?_⟩
          have hs := wk3_end (n := n) (d := d) hf
          rw [← eb] at hs
          repeat' (first | (refine And.intro ?_ ?_) | (intro _) | exact rfl)
          all_goals first | exact (hs _).1 | exact (hs _).2.1 | exact congrArg Comp.kind ((hs _).2.2 _ ‹_›) | exact congrArg Comp.v0 ((hs _).2.2 _ ‹_›) | exact congrArg Comp.v1 ((hs _).2.2 _ ‹_›) | exact congrArg Comp.v2 ((hs _).2.2 _ ‹_›) | exact congrArg Comp.v3 ((hs _).2.2 _ ‹_›)
    · have hb : ¬ (k : Int) < a.l.n := of_decide_eq_false hb
      obtain rfl : k = a.l.n := by omega
      have hs : ∀ i, i < a.l.n → (wk a b n d a.l.n).e (0 + i) = mvE b n d (a.l.e i) := fun i hi => by rw [Nat.zero_add, wk_hi hi]
      repeat' (first | (refine And.intro ?_ ?_) | (intro _) | exact rfl)
      all_goals first | exact (congrArg Ent.iD (hs _ ‹_›)).symm | exact (congrArg (fun e : Ent => e.l.n) (hs _ ‹_›)).symm | exact (congrArg (fun e : Ent => (e.l.c _).kind) (hs _ ‹_ < a.l.n›)).symm | exact (congrArg (fun e : Ent => (e.l.c _).v0) (hs _ ‹_ < a.l.n›)).symm | exact (congrArg (fun e : Ent => (e.l.c _).v1) (hs _ ‹_ < a.l.n›)).symm | exact (congrArg (fun e : Ent => (e.l.c _).v2) (hs _ ‹_ < a.l.n›)).symm | exact (congrArg (fun e : Ent => (e.l.c _).v3) (hs _ ‹_ < a.l.n›)).symm
noncomputable def conBetw : Con cx := walkCon 57 Tryz.call57 (rds4 rdWor rdWor (rdI .i64) (rdI .i64)) (fun (a : Wor × Wor × Int × Int) => [a.1.l.Sm, a.2.1.l.Sm]) (fun a => .tup [(betwE a.1 a.2.1 a.2.2.1 a.2.2.2).1.sv, .v (.int .i64 (betwE a.1 a.2.1 a.2.2.1 a.2.2.2).2)]) (fun _ => ⟨[25], [], [8, 15, 21], 0⟩) [25] (fun _ => rfl) follows Tryz.func57 (by kernel_rfl) Betw_walk
end Go.Proofs.YtjdohgcolhpegaaGreatDoor
