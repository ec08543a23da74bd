/- RewindHurts: plain laws, the walk. -/
import Derived.Test.YtjdohgcolhpegaaGreatDoorN4
namespace Go.Proofs.YtjdohgcolhpegaaGreatDoor
open Go.RowKit

theorem put_keys {w : Wor} {a k : Nat} {c : Comp} : (fun i => ((w.put a k c).l.e i).iD) = fun i => (w.l.e i).iD := funext fun _ => put_id
theorem put_kind {w : Wor} {a k : Nat} {c : Comp} (hk : c.kind = ((w.l.e a).l.c k).kind) (i j : Nat) : (((w.put a k c).l.e i).l.c j).kind = ((w.l.e i).l.c j).kind := by
  rw [put_c]
  cases h : andQ (Nat.beq i a) (Nat.beq j k) with
  | false => rfl
  | true =>
    have h1 : Nat.beq i a = true ∧ Nat.beq j k = true := by
      cases h1 : Nat.beq i a <;> cases h2 : Nat.beq j k <;> simp [h1, h2, andQ] at h ⊢
    obtain rfl := Nat.eq_of_beq_eq_true h1.1
    obtain rfl := Nat.eq_of_beq_eq_true h1.2
    exact hk
theorem put_valid {w : Wor} {a k : Nat} {c : Comp} (hv : w.Valid) (hc : c.Fits) (hk : c.kind = ((w.l.e a).l.c k).kind) : (w.put a k c).Valid := by
  refine ⟨hv.lo, hv.hi, hv.len, ?_, fun i hi => ?_⟩
  · rw [put_keys]; exact hv.inc
  · have hr := hv.right i hi
    refine ⟨by rw [put_id]; exact hr.lo, by rw [put_id]; exact hr.hi, ?_, fun j hj => ?_⟩
    · rw [show (fun j => (((w.put a k c).l.e i).l.c j).kind) = fun j => ((w.l.e i).l.c j).kind from funext fun j => put_kind hk i j, put_n]
      exact hr.inc
    · rw [put_n] at hj
      rw [put_c]
      cases andQ (Nat.beq i a) (Nat.beq j k) with
      | true => exact hc
      | false => exact hr.fits j hj
theorem put_find {w : Wor} {a k : Nat} {c : Comp} {id : Int} (hv : w.Valid) (hc : c.Fits) (hk : c.kind = ((w.l.e a).l.c k).kind) : findE (w.put a k c) id = findE w id := by
  unfold findE
  rw [Wor.valid_iff.2 hv, Wor.valid_iff.2 (put_valid hv hc hk)]
  simp only
  rw [put_keys]
  rfl
theorem put_low {w : Wor} {a k i : Nat} {c : Comp} {q : Int} (hk : c.kind = ((w.l.e a).l.c k).kind) : lowC ((w.put a k c).l.e i).l q = lowC (w.l.e i).l q ∧ hitC ((w.put a k c).l.e i).l q = hitC (w.l.e i).l q := by
  unfold lowC hitC
  rw [show (fun j => (((w.put a k c).l.e i).l.c j).kind) = fun j => ((w.l.e i).l.c j).kind from funext fun j => put_kind hk i j, put_n]
  exact ⟨rfl, rfl⟩
theorem put_put {w : Wor} {a k : Nat} {c d : Comp} : (w.put a k c).put a k d = w.put a k d := by
  refine congrArg (fun e => (⟨w.tick, ⟨w.l.n, e⟩⟩ : Wor)) (funext fun i => ?_)
  by_cases h : i = a
  · subst h
    show putF i (Ent.put (putF i ((w.l.e i).put k c) w.l.e i) k d) _ i = putF i ((w.l.e i).put k d) w.l.e i
    rw [putF_eq, putF_eq, putF_eq]
    refine congrArg (fun c => (⟨(w.l.e i).iD, ⟨(w.l.e i).l.n, c⟩⟩ : Ent)) (funext fun j => ?_)
    show putF k d (putF k c (w.l.e i).l.c) j = putF k d (w.l.e i).l.c j
    by_cases hj : j = k
    · subst hj; rw [putF_eq, putF_eq]
    · rw [putF_ne hj, putF_ne hj, putF_ne hj]
  · show putF a _ (putF a _ w.l.e) i = putF a _ w.l.e i
    rw [putF_ne h, putF_ne h, putF_ne h]
theorem fits8 {c : Comp} (hf : c.Fits) (hk : c.kind = 8) : 0 ≤ c.v0 ∧ c.v0 ≤ 1048576 ∧ 0 ≤ c.v1 ∧ c.v1 ≤ 1048576 ∧ c.v2 = 0 ∧ c.v3 = 0 := by
  obtain ⟨x1, x2, x3, x4, x5, x6, x7, x8⟩ := hf.2.2.2.2.2.2.2.2.2.1 hk
  omega
theorem fits_8 {a b : Int} (h : 0 ≤ a ∧ a ≤ 1048576 ∧ 0 ≤ b ∧ b ≤ 1048576) : Comp.Fits ⟨8, a, b, 0, 0⟩ := by
  unfold Comp.Fits Comp.F1 Comp.F2 Comp.F3 Comp.F4 Comp.F5 Comp.F6 Comp.F7 Comp.F8 Comp.F9 Comp.F10
  simp only
  omega
/-- What Hurt makes of a life. -/
def lifeC (c : Comp) (p : Int) : Comp := ⟨8, max (c.v0 - max (p - c.v1) 0) 0, c.v1, 0, 0⟩
theorem set_has {w : Wor} {id : Int} {c : Comp} (hv : w.Valid) (hc : c.Fits) (hf : (findE w id).2 = true) : setE w id c = (w.put (findE w id).1 (lowC (w.l.e (findE w id).1).l c.kind) c, 0) := by
  unfold setE
  rw [Wor.valid_iff.2 hv, fits_yes hc, hf]
  rfl
theorem hurt_has {w : Wor} {id p : Int} (hv : w.Valid) (h : (getE w id 8).2 = true) (hp : 0 ≤ p ∧ p ≤ 1048576) :
    hurtE w id p = (w.put (findE w id).1 (lowC (w.l.e (findE w id).1).l 8) (lifeC (getE w id 8).1 p), 0) := by
  obtain ⟨h1, h2, h3, h4⟩ := get_hitC h
  obtain ⟨g1, g2⟩ := get_fits h
  obtain ⟨x1, x2, x3, x4, x5, x6⟩ := fits8 g2 h4
  have ec : hurtC (getE w id 8).1 p = lifeC (getE w id 8).1 p := by
    unfold hurtC lifeC
    rw [h4, x5, x6]
    congr 1
    omega
  have hF : (lifeC (getE w id 8).1 p).Fits := fits_8 (by omega)
  unfold hurtE
  rw [Wor.valid_iff.2 hv, decide_eq_true hp.1, decide_eq_true hp.2, h]
  show setE w id (hurtC (getE w id 8).1 p) = _
  rw [ec, set_has hv hF h1]
  rfl
theorem same_refl {w : Wor} : sameW w w = true := by
  have hE : ∀ e : Ent, sameE e e = true := fun e => by
    unfold sameE
    rw [anyN_of (fun i _ _ => by simp [eqC])]
    simp
  unfold sameW
  rw [anyN_of (fun i _ _ => by rw [hE]; rfl)]
  simp
/-- The life of a world that was hurt. -/
theorem hurt_get {w : Wor} {id p : Int} (hv : w.Valid) (h : (getE w id 8).2 = true) (hp : 0 ≤ p ∧ p ≤ 1048576) :
    (hurtE w id p).1.Valid ∧ getE (hurtE w id p).1 id 8 = (lifeC (getE w id 8).1 p, true) ∧ findE (hurtE w id p).1 id = findE w id ∧ lowC ((hurtE w id p).1.l.e (findE w id).1).l 8 = lowC (w.l.e (findE w id).1).l 8 := by
  obtain ⟨h1, h2, h3, h4⟩ := get_hitC h
  obtain ⟨g1, g2⟩ := get_fits h
  obtain ⟨x1, x2, x3, x4, x5, x6⟩ := fits8 g2 h4
  have hF : (lifeC (getE w id 8).1 p).Fits := fits_8 (by omega)
  have hk : (lifeC (getE w id 8).1 p).kind = ((w.l.e (findE w id).1).l.c (lowC (w.l.e (findE w id).1).l 8)).kind := by rw [← h3, h4]; rfl
  rw [hurt_has hv h hp]
  simp only
  generalize lifeC (getE w id 8).1 p = C at *
  have hf := put_find (id := id) hv hF hk
  obtain ⟨q1, q2⟩ := put_low (i := (findE w id).1) (q := 8) hk
  refine ⟨put_valid hv hF hk, ?_, hf, q1⟩
  unfold getE
  rw [hf, h1]
  show getC _ 8 = _
  unfold getC
  rw [show hitB (fun i => (((w.put (findE w id).1 (lowC (w.l.e (findE w id).1).l 8) C).l.e (findE w id).1).l.c i).kind) ((w.put (findE w id).1 (lowC (w.l.e (findE w id).1).l 8) C).l.e (findE w id).1).l.n 8 = true from q2.trans h2]
  show (((w.put _ _ _).l.e _).l.c (lowC ((w.put (findE w id).1 (lowC (w.l.e (findE w id).1).l 8) C).l.e (findE w id).1).l 8), true) = _
  rw [q1, put_c, Nat.beq_refl, Nat.beq_refl]
  rfl
theorem hurt_twice {w : Wor} {id a b : Int} (hv : w.Valid) (h : (getE w id 8).2 = true) (ha : 0 ≤ a ∧ a ≤ 1048576) (hb : 0 ≤ b ∧ b ≤ 1048576) :
    hurtE (hurtE w id a).1 id b = (w.put (findE w id).1 (lowC (w.l.e (findE w id).1).l 8) ⟨8, max ((getE w id 8).1.v0 - max (a - (getE w id 8).1.v1) 0 - max (b - (getE w id 8).1.v1) 0) 0, (getE w id 8).1.v1, 0, 0⟩, 0) := by
  obtain ⟨k1, k2, k3, k4⟩ := hurt_get hv h ha
  have k5 : (getE (hurtE w id a).1 id 8).2 = true := by rw [k2]
  rw [hurt_has k1 k5 hb, k3, k4, k2, hurt_has hv h ha]
  simp only
  rw [put_put]
  congr 2
  unfold lifeC
  simp only
  congr 1
  omega
theorem valid_sm {w : Wor} (hv : w.Valid) : w.l.Sm := by
  refine ⟨?_, fun i hi => ⟨?_, fun j hj => ?_⟩⟩
  · have := hv.len; unfold bigN; omega
  · have := (hv.right i hi).len; unfold bigN; omega
  · have := (hv.right i hi).fits j hj
    exact ⟨by have := this.1; omega, by have := this.2.1; omega⟩
theorem hurts_no (X : Wor × Int) (W : Wor) (h : X = (Wor.no, 6)) (h1 : W.tick = 0) (h2 : W.l.n = 0) : true = ((decide (X.2 = 6) && sameW X.1 W) || false) := by
  subst h
  unfold sameW
  rw [h1, h2]
  rfl
theorem hurts_yes {X Y A B : Wor × Int} (hx : X.2 = 0) (hy : Y.2 = 0) (ha : A = X) (hb : B = Y) : true = ((((((decide (X.2 = 0) && decide (Y.2 = 0)) && decide (A.2 = 0)) && decide (B.2 = 0)) && sameW X.1 A.1) && sameW Y.1 B.1) || false) := by
  subst ha hb
  rw [hx, hy, same_refl, same_refl]
  rfl
def idH (w : Wor) (x : Int) : Int := (w.l.e (x.tmod w.l.n).toNat).iD
/-- The worlds that are compared. -/
def wantC (C : Comp) (a : Int) : Comp := ⟨8, max (C.v0 - max (a - C.v1) 0) 0, C.v1, 0, 0⟩
def bothC (C : Comp) (a b : Int) : Comp := ⟨8, max (C.v0 - max (a - C.v1) 0 - max (b - C.v1) 0) 0, C.v1, 0, 0⟩
def hs8 (w : Wor) (a b id : Int) : Cut := ⟨Unit, fun _ => (getE w id 8).2 = true, fun _ => ⟨[sl 2 (.v (.int .u16 a)), sl 3 (.v (.int .u16 b)), sl 4 (.p 0 0), sl 9 (i64 id), sl 10 (.p 1 0), sl 12 (.p 2 0), sl 13 (i64 (hurtE w id a).2)],
  [(0, .lay w.cells 25), (1, .lay (getE w id 8).1.cells 46), (2, .lay (hurtE w id a).1.cells 25)], 3, 0, [], []⟩, fun _ => 0⟩
def hs10 (w : Wor) (a b id : Int) : Cut := ⟨Unit, fun _ => True, fun _ => ⟨[sl 4 (.p 0 0), sl 9 (i64 id), sl 10 (.p 1 0), sl 12 (.p 2 0), sl 13 (i64 (hurtE w id a).2), sl 14 (.p 3 0), sl 15 (i64 (hurtE (hurtE w id a).1 id b).2), sl 16 (i64 (max (a - (getE w id 8).1.v1) 0)), sl 17 (i64 (max (b - (getE w id 8).1.v1) 0))],
  [(0, .lay w.cells 25), (1, .lay (getE w id 8).1.cells 46), (2, .lay (hurtE w id a).1.cells 25), (3, .lay (hurtE (hurtE w id a).1 id b).1.cells 25)], 4, 0, [], []⟩, fun _ => 0⟩
def hs11 (w : Wor) (a b id : Int) : Cut := ⟨Unit, fun _ => True, fun _ => ⟨[sl 4 (.p 0 0), sl 9 (i64 id), sl 10 (.p 1 0), sl 12 (.p 2 0), sl 13 (i64 (hurtE w id a).2), sl 14 (.p 3 0), sl 15 (i64 (hurtE (hurtE w id a).1 id b).2), sl 16 (i64 (max (a - (getE w id 8).1.v1) 0)), sl 17 (i64 (max (b - (getE w id 8).1.v1) 0)), sl 18 (.p 4 0), sl 19 (i64 (setE w id (wantC (getE w id 8).1 a)).2)],
  [(0, .lay w.cells 25), (1, .lay (getE w id 8).1.cells 46), (2, .lay (hurtE w id a).1.cells 25), (3, .lay (hurtE (hurtE w id a).1 id b).1.cells 25), (4, .lay (setE w id (wantC (getE w id 8).1 a)).1.cells 25)], 5, 0, [], []⟩, fun _ => 0⟩
def hs12 (w : Wor) (a b id : Int) : Cut := ⟨Unit, fun _ => True, fun _ => ⟨[sl 12 (.p 2 0), sl 13 (i64 (hurtE w id a).2), sl 14 (.p 3 0), sl 15 (i64 (hurtE (hurtE w id a).1 id b).2), sl 18 (.p 4 0), sl 19 (i64 (setE w id (wantC (getE w id 8).1 a)).2), sl 20 (.p 5 0), sl 21 (i64 (setE w id (bothC (getE w id 8).1 a b)).2)],
  [(2, .lay (hurtE w id a).1.cells 25), (3, .lay (hurtE (hurtE w id a).1 id b).1.cells 25), (4, .lay (setE w id (wantC (getE w id 8).1 a)).1.cells 25), (5, .lay (setE w id (bothC (getE w id 8).1 a b)).1.cells 25)], 6, 0, [], []⟩, fun _ => 0⟩
set_option maxHeartbeats 4000000 in
set_option maxRecDepth 8000 in
theorem Hurts_walk (q : Wor × Int × Int × Int) (hp : q.1.l.Sm ∧ (0 ≤ q.2.1 ∧ q.2.1 ≤ 255) ∧ (0 ≤ q.2.2.1 ∧ q.2.2.1 ≤ 65535) ∧ (0 ≤ q.2.2.2 ∧ q.2.2.2 ≤ 65535)) :
    evFn (C := cx) [conFew29, conWValid, conAwake29, conGet, conHurt, conSameW, conComp29, conSetH] [] 0 ⟨[10, 11], [8, 10, 11, 12], [], 0⟩ Tryz.f4 ((rds4 rdWor (rdI .u8) (rdI .u16) (rdI .u16)).enc q) fun v H _ => resOut (.v (.bool true)) H v := by
  obtain ⟨w, x, a, b⟩ := q
  obtain ⟨hm, ⟨hx0, hx1⟩, ⟨ha0, ha1⟩, hb0, hb1⟩ : w.l.Sm ∧ (0 ≤ x ∧ x ≤ 255) ∧ (0 ≤ a ∧ a ≤ 65535) ∧ (0 ≤ b ∧ b ≤ 65535) := hp
  refine And.intro (fun _ _ _ _ => trivial) ?_
  refine And.intro (fun _ => ⟨fun _ _ _ _ => trivial, hm⟩) ?_
  refine And.intro (fun hc => ?_) (fun hc => ?_)
  · exact rfl
  have hc1 := Bool.or_eq_false_iff.1 hc
  have hn : ¬ (w.l.n : Int) = 0 := of_decide_eq_false hc1.2
  have hv1 : (!w.valid) = false := (Bool.or_eq_false_iff.1 hc1.1).2
  have hv := Wor.valid_iff.1 (by simpa using hv1)
  have ht := tmod_rng (a := x) (b := (w.l.n : Int)) (by omega)
  have ht0 : 0 ≤ x.tmod w.l.n := Int.tmod_nonneg _ hx0
  have r1 : InR x := by unfold InR; omega
  have r2 : InR a := by unfold InR; omega
  have r3 : InR b := by unfold InR; omega
  refine And.intro r1 ?_
  refine And.intro hn ?_
  refine And.intro ⟨ht0, ht.2⟩ ?_
  refine And.intro ⟨fun _ _ _ _ => trivial, hm⟩ ?_
  refine And.intro r2 ?_
  refine And.intro ⟨fun _ _ _ _ => trivial, hm⟩ ?_
  refine Exists.intro (hs8 w a b (idH w x)) ?_
  refine And.intro (And.intro (fun hg => ?_) (fun hg => ?_)) ?_
  · have hg : (!(getE w (idH w x) 8).2) = true := hg
    have hg' : (getE w (idH w x) 8).2 = false := by simpa using hg
    have e1 : hurtE w (idH w x) a = (Wor.no, 6) := by
      unfold hurtE
      rw [Wor.valid_iff.2 hv, decide_eq_true ha0, decide_eq_true (by omega : a ≤ 1048576), hg']
      rfl
    have l0 : ((hurtE w (idH w x) a).1.l.n : Int) ≤ bigN := by rw [e1]; show ((0 : Nat) : Int) ≤ bigN; unfold bigN; decide
    have l1 : ∀ i, i < (hurtE w (idH w x) a).1.l.n → (((hurtE w (idH w x) a).1.l.e i).l.n : Int) ≤ bigN := by rw [e1]; exact fun i hi => absurd hi (Nat.not_lt_zero i)
    refine And.intro (fun _ => ⟨fun _ _ _ _ => trivial, l0, l1⟩) ?_
    exact hurts_no _ _ e1 rfl rfl
  · have hg : (!(getE w (idH w x) 8).2) = false := hg
    have hg : (getE w (idH w x) 8).2 = true := by simpa using hg
    refine ⟨(), [], [], trivial, hg, ?_⟩
    repeat' (first | (refine And.intro ?_ ?_) | (intro _) | exact rfl)
  refine fun (_ : Unit) (hg : (getE w (idH w x) 8).2 = true) => ?_
  obtain ⟨h1, h2, h3, h4⟩ := get_hitC hg
  obtain ⟨g1, g2⟩ := get_fits hg
  obtain ⟨x1, x2, x3, x4, x5, x6⟩ := fits8 g2 h4
  obtain ⟨k1, k2, k3, k4⟩ := hurt_get hv hg (⟨ha0, by omega⟩ : 0 ≤ a ∧ a ≤ 1048576)
  have e1 := hurt_has hv hg (⟨ha0, by omega⟩ : 0 ≤ a ∧ a ≤ 1048576)
  have e2 := hurt_twice hv hg (⟨ha0, by omega⟩ : 0 ≤ a ∧ a ≤ 1048576) (⟨hb0, by omega⟩ : 0 ≤ b ∧ b ≤ 1048576)
  have m1 : (hurtE w (idH w x) a).1.l.Sm := valid_sm k1
  have c8 : (0 : Int) ≤ 8 ∧ (8 : Int) ≤ 255 := by decide
  refine And.intro r3 ?_
  refine And.intro ⟨fun _ _ _ _ => trivial, m1⟩ ?_
  refine Exists.intro (hs10 w a b (idH w x)) ?_
  refine And.intro ?_ ?_
  · refine And.intro r2 ?_
    refine And.intro (by unfold I64; omega : I64 (a - (getE w (idH w x) 8).1.v1)) ?_
    refine And.intro r3 ?_
    refine And.intro (by unfold I64; omega : I64 (b - (getE w (idH w x) 8).1.v1)) ?_
    refine ⟨(), [], [], trivial, trivial, ?_⟩
    repeat' (first | (refine And.intro ?_ ?_) | (intro _) | exact rfl)
  refine fun (_ : Unit) (_ : True) => ?_
  refine Exists.intro (hs11 w a b (idH w x)) ?_
  refine And.intro ?_ ?_
  · refine And.intro (by unfold I64; omega : I64 ((getE w (idH w x) 8).1.v0 - max (a - (getE w (idH w x) 8).1.v1) 0)) ?_
    refine And.intro (al2 trivial trivial) ?_
    refine And.intro ⟨fun _ _ _ _ => trivial, hm, c8, fun _ _ => h2⟩ ?_
    refine ⟨(), [(4, 5)], [], trivial, trivial, ?_⟩
    repeat' (first | (refine And.intro ?_ ?_) | (intro _) | exact rfl)
  refine fun (_ : Unit) (_ : True) => ?_
  refine Exists.intro (hs12 w a b (idH w x)) ?_
  refine And.intro ?_ ?_
  · refine And.intro (by unfold I64; omega : I64 ((getE w (idH w x) 8).1.v0 - max (a - (getE w (idH w x) 8).1.v1) 0)) ?_
    refine And.intro (by unfold I64; omega : I64 ((getE w (idH w x) 8).1.v0 - max (a - (getE w (idH w x) 8).1.v1) 0 - max (b - (getE w (idH w x) 8).1.v1) 0)) ?_
    refine And.intro (al2 trivial trivial) ?_
    refine And.intro ⟨fun _ _ _ _ => trivial, hm, c8, fun _ _ => h2⟩ ?_
    refine ⟨(), [(5, 6)], [], trivial, trivial, ?_⟩
    repeat' (first | (refine And.intro ?_ ?_) | (intro _) | exact rfl)
  refine fun (_ : Unit) (_ : True) => ?_
  have s1 : setE w (idH w x) ⟨8, max ((getE w (idH w x) 8).1.v0 - max (a - (getE w (idH w x) 8).1.v1) 0) 0, (getE w (idH w x) 8).1.v1, 0, 0⟩ = hurtE w (idH w x) a := by
    rw [e1]
    exact set_has hv (fits_8 (by omega)) h1
  have s2 : setE w (idH w x) ⟨8, max ((getE w (idH w x) 8).1.v0 - max (a - (getE w (idH w x) 8).1.v1) 0 - max (b - (getE w (idH w x) 8).1.v1) 0) 0, (getE w (idH w x) 8).1.v1, 0, 0⟩ = hurtE (hurtE w (idH w x) a).1 (idH w x) b := by
    rw [e2]
    exact set_has hv (fits_8 (by omega)) h1
  have k5 : (getE (hurtE w (idH w x) a).1 (idH w x) 8).2 = true := by rw [k2]
  have k6 := (hurt_get k1 k5 (⟨hb0, by omega⟩ : 0 ≤ b ∧ b ≤ 1048576)).1
  have m2 := valid_sm k6
  refine And.intro (fun _ => ⟨fun _ _ _ _ => trivial, fun _ _ _ _ => trivial, m1.1, fun i hi => (m1.2 i hi).1⟩) ?_
  refine And.intro (fun _ => ⟨fun _ _ _ _ => trivial, fun _ _ _ _ => trivial, m2.1, fun i hi => (m2.2 i hi).1⟩) ?_
  exact hurts_yes (by rw [e1]) (by rw [e2]) s1 s2
end Go.Proofs.YtjdohgcolhpegaaGreatDoor
