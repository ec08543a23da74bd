/- RewindFirst: the walk. -/
import Derived.Test.YtjdohgcolhpegaaGreatDoorV16
namespace Go.Proofs.YtjdohgcolhpegaaGreatDoor
open Go.RowKit

def metK (L : List Body) (id : Int) : Nat → Bool
  | 0 => false
  | k + 1 => metK L id k || decide ((bodG L k).iD = id)
def bestK (L : List Body) (id : Int) : Nat → Body
  | 0 => Body.no
  | k + 1 => match decide ((bodG L k).iD = id) with | true => bodG L k | false => bestK L id k
theorem bestK_of {L : List Body} {id : Int} {m : Nat} (hm : m < L.length) (h : (bodG L m).iD = id) (hinc : ∀ i j, i < j → j < L.length → (bodG L i).iD < (bodG L j).iD) : ∀ k, m < k → k ≤ L.length → metK L id k = true ∧ bestK L id k = bodG L m
  | 0, h1, _ => absurd h1 (Nat.not_lt_zero m)
  | k + 1, h1, h2 => by
    by_cases e : k = m
    · subst e
      simp only [metK, bestK, decide_eq_true h, Bool.or_true]
      exact ⟨trivial, trivial⟩
    · have hk : ¬ (bodG L k).iD = id := by
        intro c
        have := hinc m k (by omega) (by omega)
        omega
      obtain ⟨q1, q2⟩ := bestK_of hm h hinc k (by omega) (by omega)
      simp only [metK, bestK, decide_eq_false hk, Bool.or_false]
      exact ⟨q1, q2⟩
def BefOk (w : Wor) (c : Int) (p q : Vec) (X : Hit) (b : Body) : Prop := X.id ≠ 0 → ∀ i, i < (allL w).length → ownedB w c (bodG (allL w) i) = false → meetsB (bodG (allL w) i) p q = true → (beforeE b (bodG (allL w) i) p q).2 = 0 ∧ (beforeE b (bodG (allL w) i) p q).1 ≤ 0 ∧ ((beforeE b (bodG (allL w) i) p q).1 = 0 → X.id ≤ (bodG (allL w) i).iD)
structure FRng (p : Vec) (i : Df.Input) : Prop where
  x : -1048576 ≤ p.x ∧ p.x ≤ 1048576
  y : -1048576 ≤ p.y ∧ p.y ≤ 1048576
  ax : -8192 ≤ i.aimX ∧ i.aimX ≤ 8192
  ay : -8192 ≤ i.aimY ∧ i.aimY ≤ 8192
def fs11 : Cut := ⟨Vec × Df.Input × Hit × Wor, fun a => FRng a.1 a.2.1 ∧ a.2.2.2.Valid ∧ a.2.2.2.l.n ≤ 12 ∧ FOk a.2.2.2 a.2.1.client a.1 (toV a.1 a.2.1) a.2.2.1,
  fun a => ⟨[sl 4 (.p 0 0), sl 5 (.p 1 0), sl 7 (.p 2 0), sl 9 (.p 3 0)], [(0, .lay a.1.cells 27), (1, .lay a.2.1.cells 29), (2, .lay a.2.2.1.cells 39), (3, .lay a.2.2.2.cells 25)], 4, 0, [], []⟩, fun _ => 0⟩
def frH (p : Vec) (i : Df.Input) (X : Hit) (w : Wor) (b : Body) : Heap := [(0, .lay p.cells 27), (1, .lay i.cells 29), (2, .lay X.cells 39), (3, .lay w.cells 25), (4, .lay (toV p i).cells 27), (5, .lay b.cells 60)]
def allS (w : Wor) : SV := .rs 9 (allL w).length (fun i => (bodG (allL w) i).cells)
def fs16 (p : Vec) (i : Df.Input) (X : Hit) (w : Wor) : Cut := ⟨Nat, fun k => k ≤ (allL w).length, fun k => ⟨[sl 4 (.p 0 0), sl 5 (.p 1 0), sl 7 (.p 2 0), sl 9 (.p 3 0), sl 11 (.p 4 0), sl 12 (.v (.bool (metK (allL w) X.id k))), sl 13 (.p 5 0), sl 14 (allS w), sl 102 (allS w), sl 103 (i64 (allL w).length), sl 104 (i64 k)],
  frH p i X w (bestK (allL w) X.id k), 6, 0, [], []⟩, fun k => (allL w).length - k⟩
def fs30 (p : Vec) (i : Df.Input) (X : Hit) (w : Wor) : Cut := ⟨Body, fun b => BefOk w i.client p (toV p i) X b, fun b => ⟨[sl 4 (.p 0 0), sl 5 (.p 1 0), sl 7 (.p 2 0), sl 9 (.p 3 0), sl 11 (.p 4 0), sl 13 (.p 5 0), sl 14 (allS w)],
  frH p i X w b, 6, 0, [], []⟩, fun _ => 0⟩
def fs31 (p : Vec) (i : Df.Input) (X : Hit) (w : Wor) (b : Body) : Cut := ⟨Nat, fun k => k ≤ (allL w).length, fun k => ⟨[sl 4 (.p 0 0), sl 5 (.p 1 0), sl 7 (.p 2 0), sl 9 (.p 3 0), sl 11 (.p 4 0), sl 13 (.p 5 0), sl 179 (allS w), sl 180 (i64 (allL w).length), sl 181 (i64 k)],
  frH p i X w b, 6, 0, [], []⟩, fun k => (allL w).length - k⟩
theorem few_12 {h : Wrs} (hf : fewsB h = true) : ∀ k, k < h.n → (h.w k).l.n ≤ 12 := fun k hk => by
  unfold fewsB at hf
  have h1 := (Bool.and_eq_true_iff.1 hf).2
  have h2 := anyN_no (by simpa using h1 : anyN (fun i => !fewB (h.w i)) 0 h.n = false) k (Nat.zero_le _) (by omega)
  have h3 : fewB (h.w k) = true := by simpa using h2
  unfold fewB at h3
  have h4 := (Bool.and_eq_true_iff.1 h3).1
  simp only [Bool.not_eq_true', decide_eq_false_iff_not] at h4
  omega
theorem valid_smF {w : Wor} (hv : w.Valid) : w.l.Sm := by
  refine ⟨?_, fun i hi => ⟨?_, fun j hj => ?_⟩⟩
  · have := hv.len; unfold bigN; omega
  · have := (hv.right i hi).len; unfold bigN; omega
  · have := (hv.right i hi).fits j hj
    exact ⟨by have := this.1; omega, by have := this.2.1; omega⟩
theorem few_of {a b : Bool} (h : (!(a && b)) = false) : a = true := by cases a <;> simp_all
theorem first_err {e f : Int} {X : Hit} (hx : X = Hit.no) (h : (e = 2 ∧ f = 2) ∨ (e = 291 ∧ f = 6)) : true = ((((decide (e = 291) == decide (f = 6)) && (decide (e = 2) == decide (f = 2))) && eqH X) || false) := by
  subst hx
  rcases h with ⟨rfl, rfl⟩ | ⟨rfl, rfl⟩ <;> rfl
set_option maxHeartbeats 8000000 in
set_option maxRecDepth 8000 in
theorem First_walk29 (a : Wrs × Vec × Df.Input) (hm : a.1.Sm) :
    evFn (C := cx) [conFew29, conAwake29, conShot, conSee, conShown, conBodies, conGet, conPart, conMeets, conBefore] [] 0 ⟨[], [11, 30], [16, 31], 0⟩ Tryz.f5 ((rds3 rdWrs rdVec Df.rdInput).enc a) fun v H _ => resOut (.v (.bool true)) H v := by
  obtain ⟨h, p0, i0⟩ := a
  replace hm : h.Sm := hm
  refine And.intro ?_ ?_
  · repeat' (first | (refine And.intro ?_ ?_) | (intro _) | exact trivial)
  refine And.intro (fun hc => ?_) (fun hc => ?_)
  · exact rfl
  have hf : fewsB h = true := few_of hc
  have h12 := few_12 hf
  refine And.intro ⟨fun _ _ _ _ _ _ => trivial, hm, h12⟩ ?_
  refine And.intro ⟨fun _ _ _ _ _ _ => trivial, hm⟩ ?_
  have hcs := see_cases (h := h) (p := p0) (i := i0) h12
  refine And.intro (fun he => ?_) (fun he => ?_)
  · have he : decide (¬ (seeE h (shotI i0).client (ptF p0) (shotI i0)).2 = 0) = true := he
    have he := of_decide_eq_true he
    rcases hcs with ⟨e1, e2, e3⟩ | ⟨e1, e2, e3⟩ | ⟨e1, -⟩
    · exact first_err e3 (.inl ⟨e1, e2⟩)
    · exact first_err e3 (.inr ⟨e1, e2⟩)
    · exact absurd e1 he
  have he : decide (¬ (seeE h (shotI i0).client (ptF p0) (shotI i0)).2 = 0) = false := he
  have he : (seeE h (shotI i0).client (ptF p0) (shotI i0)).2 = 0 := by simpa using he
  obtain ⟨e2, e3, e4⟩ : (shownE h (shotI i0).seen (shotI i0).part).2 = 0 ∧ (shownE h (shotI i0).seen (shotI i0).part).1.Valid ∧ FOk (shownE h (shotI i0).seen (shotI i0).part).1 (shotI i0).client (ptF p0) (toV (ptF p0) (shotI i0)) (seeE h (shotI i0).client (ptF p0) (shotI i0)).1 := by
    rcases hcs with ⟨e1, -⟩ | ⟨e1, -⟩ | ⟨-, e2, e3, e4⟩
    · omega
    · omega
    · exact ⟨e2, e3, e4⟩
  have hrng : FRng (ptF p0) (shotI i0) := by
    obtain ⟨-, -, a1, a2, a3, a4⟩ := shot_rng i0
    obtain ⟨p1, p2, p3, p4⟩ := ptF_rng p0
    exact ⟨⟨p1, p2⟩, ⟨p3, p4⟩, ⟨a1, a2⟩, a3, a4⟩
  refine Exists.intro fs11 ?_
  refine And.intro (And.intro (fun hz => ?_) (fun hz => ?_)) ?_
  · have hz : decide (¬ (shownE h (shotI i0).seen (shotI i0).part).2 = 0) = true := hz
    exact absurd e2 (of_decide_eq_true hz)
  · refine ⟨(ptF p0, shotI i0, (seeE h (shotI i0).client (ptF p0) (shotI i0)).1, (shownE h (shotI i0).seen (shotI i0).part).1), [], [], trivial, ⟨hrng, e3, shown_12 h12, e4⟩, ?_⟩
    repeat' (first | (refine And.intro ?_ ?_) | (intro _) | exact rfl)
  clear he e2 e3 e4 hrng hcs h12 hf hm
  rintro ⟨p, i, X, w⟩ ⟨hr, hv, h12, hF⟩
  replace hr : FRng p i := hr
  replace hv : w.Valid := hv
  replace h12 : w.l.n ≤ 12 := h12
  replace hF : FOk w i.client p (toV p i) X := hF
  obtain ⟨r1, r2, r3, r4⟩ := hr
  have wS := valid_smF hv
  have hL : Bods w (allL w) := bods_of hv
  have hLl : (allL w).length ≤ 12 := Nat.le_trans hL.len h12
  refine And.intro (by unfold I64; omega : I64 (p.x + i.aimX)) ?_
  refine And.intro (by unfold I64; omega : I64 (p.y + i.aimY)) ?_
  have n1000 : w.l.n ≤ 1000 := by omega
  refine And.intro ⟨fun _ _ _ _ => trivial, wS, n1000, rfl⟩ ?_
  refine Exists.intro (fs16 p i X w) ?_
  refine And.intro ?_ ?_
  · refine ⟨(0 : Nat), [], [], trivial, Nat.zero_le _, ?_⟩
    repeat' (first | (refine And.intro ?_ ?_) | (intro _) | exact rfl)
  refine fun (k : Nat) (hk : k ≤ (allL w).length) => ?_
  refine And.intro (fun hb => ?_) (fun hb => ?_)
  · have hb : (k : Int) < (allL w).length := of_decide_eq_true hb
    have o1 : I64 ((k : Int) + 1) := by unfold I64; omega
    have u1 : (allL w).length - (k + 1) < (allL w).length - k := by omega
    have u2 : k + 1 ≤ (allL w).length := by omega
    refine And.intro ⟨by omega, by omega⟩ ?_
    refine And.intro (fun hd => ?_) (fun hd => ?_)
    · have hd : decide ((bodG (allL w) k).iD = X.id) = true := hd
      have eb : bestK (allL w) X.id (k + 1) = bodG (allL w) k := by simp only [bestK, hd]
      refine And.intro o1 ?_
      refine ⟨k + 1, [], [], u1, u2, ?_⟩
      repeat' (first | (refine And.intro ?_ ?_) | (intro _) | exact rfl)
      all_goals first | exact congrArg Body.iD eb | exact congrArg Body.posX eb | exact congrArg Body.posY eb | exact congrArg Body.velX eb | exact congrArg Body.velY eb | exact congrArg Body.w eb | exact congrArg Body.h eb | exact congrArg Body.round eb | exact congrArg Body.fixed eb
    · have hd : decide ((bodG (allL w) k).iD = X.id) = false := hd
      have eb : bestK (allL w) X.id (k + 1) = bestK (allL w) X.id k := by simp only [bestK, hd]
      refine And.intro o1 ?_
      refine ⟨k + 1, [], [], u1, u2, ?_⟩
      repeat' (first | (refine And.intro ?_ ?_) | (intro _) | exact rfl)
      all_goals first | exact congrArg Body.iD eb | exact congrArg Body.posX eb | exact congrArg Body.posY eb | exact congrArg Body.velX eb | exact congrArg Body.velY eb | exact congrArg Body.w eb | exact congrArg Body.h eb | exact congrArg Body.round eb | exact congrArg Body.fixed eb
  have hb : ¬ (k : Int) < (allL w).length := of_decide_eq_false hb
  obtain rfl : k = (allL w).length := by omega
  refine Exists.intro (fs30 p i X w) ?_
  refine And.intro (And.intro (fun hx => ?_) (fun hx => ?_)) ?_
  · have hx : decide (¬ X.id = 0) = true := hx
    have hx := of_decide_eq_true hx
    obtain ⟨m, m1, m2, m3, m4, m5, m6, m7⟩ := hF.some hx
    obtain ⟨b1, b2⟩ := bestK_of m1 m2 hL.inc (allL w).length m1 (Nat.le_refl _)
    refine And.intro ⟨fun _ _ _ _ => trivial, wS⟩ ?_
    refine And.intro ⟨fun _ _ _ _ => trivial, wS⟩ ?_
    have hnot : ((((!metK (allL w) X.id (allL w).length || decide (¬ (partE (bestK (allL w) X.id (allL w).length) p (toV p i)).2 = 0)) || decide (¬ (partE (bestK (allL w) X.id (allL w).length) p (toV p i)).1 = X.at_)) || ((getE w X.id 8).2 != X.alive)) || ((getE w X.id 4).2 && decide ((getE w X.id 4).1.v0 = i.client))) = false := by
      unfold ownedB at m3
      rw [m2] at m3
      rw [b1, b2, m5, ← m4, ← m6, m3]
      simp
    refine And.intro (fun hy => ?_) (fun hy => ?_)
    · exact absurd (hnot.symm.trans hy) (by decide)
    · refine ⟨bestK (allL w) X.id (allL w).length, [], [], trivial, fun _ => by rw [b2]; exact m7, ?_⟩
      repeat' (first | (refine And.intro ?_ ?_) | (intro _) | exact rfl)
  · have hx : decide (¬ X.id = 0) = false := hx
    have hx : X.id = 0 := by simpa using hx
    obtain ⟨z1, z2⟩ := hF.zero hx
    have hnot : (!(eqH X)) = false := by rw [z1]; rfl
    refine And.intro (fun hy => ?_) (fun hy => ?_)
    · exact absurd (hnot.symm.trans hy) (by decide)
    · refine ⟨bestK (allL w) X.id (allL w).length, [], [], trivial, fun c => absurd hx c, ?_⟩
      repeat' (first | (refine And.intro ?_ ?_) | (intro _) | exact rfl)
  refine fun (b : Body) (hb : BefOk w i.client p (toV p i) X b) => ?_
  refine Exists.intro (fs31 p i X w b) ?_
  refine And.intro ?_ ?_
  · refine ⟨(0 : Nat), [], [], trivial, Nat.zero_le _, ?_⟩
    repeat' (first | (refine And.intro ?_ ?_) | (intro _) | exact rfl)
  refine fun (k : Nat) (hk : k ≤ (allL w).length) => ?_
  refine And.intro (fun hk2 => ?_) (fun hk2 => ?_)
  · have hk2 : (k : Int) < (allL w).length := of_decide_eq_true hk2
    have o1 : I64 ((k : Int) + 1) := by unfold I64; omega
    have u1 : (allL w).length - (k + 1) < (allL w).length - k := by omega
    have u2 : k + 1 ≤ (allL w).length := by omega
    refine And.intro ⟨by omega, by omega⟩ ?_
    refine And.intro ⟨fun _ _ _ _ => trivial, wS⟩ ?_
    refine And.intro (fun hd => ?_) (fun hd => ?_)
    · refine And.intro o1 ?_
      refine ⟨k + 1, [], [], u1, u2, ?_⟩
      repeat' (first | (refine And.intro ?_ ?_) | (intro _) | exact rfl)
    have hd : (ownedB w i.client (bodG (allL w) k) || !meetsB (bodG (allL w) k) p (toV p i)) = false := hd
    obtain ⟨d1, d2⟩ := Bool.or_eq_false_iff.1 hd
    have d2 : meetsB (bodG (allL w) k) p (toV p i) = true := by simpa using d2
    refine And.intro (fun hx => ?_) (fun hx => ?_)
    · have hx : decide (X.id = 0) = true := hx
      obtain ⟨-, z2⟩ := hF.zero (of_decide_eq_true hx)
      rcases z2 k (by omega) with z | z
      · rw [z] at d1; cases d1
      · rw [z] at d2; cases d2
    have hx : decide (X.id = 0) = false := hx
    obtain ⟨y1, y2, y3⟩ := hb (of_decide_eq_false hx) k (by omega) d1 d2
    have hnot : ((decide (¬ (beforeE b (bodG (allL w) k) p (toV p i)).2 = 0) || decide (0 < (beforeE b (bodG (allL w) k) p (toV p i)).1)) || (decide ((beforeE b (bodG (allL w) k) p (toV p i)).1 = 0) && decide ((bodG (allL w) k).iD < X.id))) = false := by
      rw [y1]
      simp only [Bool.or_eq_false_iff, Bool.and_eq_false_iff, decide_eq_false_iff_not]
      refine ⟨⟨by decide, by omega⟩, ?_⟩
      by_cases hz : (beforeE b (bodG (allL w) k) p (toV p i)).1 = 0
      · right; have := y3 hz; omega
      · left; exact hz
    refine And.intro (fun hy => ?_) (fun hy => ?_)
    · exact absurd (hnot.symm.trans hy) (by decide)
    · refine And.intro o1 ?_
      refine ⟨k + 1, [], [], u1, u2, ?_⟩
      repeat' (first | (refine And.intro ?_ ?_) | (intro _) | exact rfl)
  · exact rfl
end Go.Proofs.YtjdohgcolhpegaaGreatDoor
