/- at, box, ball, area, find, ends, Made. -/
import Derived.Test.YtcbpajkgmpibgaaC17
namespace Go.Proofs.Ytcbpajkgmpibgaa
open Go.RowKit

section
variable {α β γ δ ε ζ η : Type}
def rds5 (a : Rd α) (b : Rd β) (c : Rd γ) (d : Rd δ) (e : Rd ε) : Rds (α × β × γ × δ × ε) := ⟨[a.pat, b.pat, c.pat, d.pat, e.pat], fun xs => (a.dec (hdS xs), b.dec (hdS (tlS xs)), c.dec (hdS (tlS (tlS xs))), d.dec (hdS (tlS (tlS (tlS xs)))), e.dec (hdS (tlS (tlS (tlS (tlS xs)))))), fun x => [a.enc x.1, b.enc x.2.1, c.enc x.2.2.1, d.enc x.2.2.2.1, e.enc x.2.2.2.2], fun xs => by simp only [a.ok, b.ok, c.ok, d.ok, e.ok]; rfl⟩
def rds6 (a : Rd α) (b : Rd β) (c : Rd γ) (d : Rd δ) (e : Rd ε) (f : Rd ζ) : Rds (α × β × γ × δ × ε × ζ) := ⟨[a.pat, b.pat, c.pat, d.pat, e.pat, f.pat], fun xs => (a.dec (hdS xs), b.dec (hdS (tlS xs)), c.dec (hdS (tlS (tlS xs))), d.dec (hdS (tlS (tlS (tlS xs)))), e.dec (hdS (tlS (tlS (tlS (tlS xs))))), f.dec (hdS (tlS (tlS (tlS (tlS (tlS xs))))))), fun x => [a.enc x.1, b.enc x.2.1, c.enc x.2.2.1, d.enc x.2.2.2.1, e.enc x.2.2.2.2.1, f.enc x.2.2.2.2.2], fun xs => by simp only [a.ok, b.ok, c.ok, d.ok, e.ok, f.ok]; rfl⟩
def rds7 (a : Rd α) (b : Rd β) (c : Rd γ) (d : Rd δ) (e : Rd ε) (f : Rd ζ) (g : Rd η) : Rds (α × β × γ × δ × ε × ζ × η) := ⟨[a.pat, b.pat, c.pat, d.pat, e.pat, f.pat, g.pat], fun xs => (a.dec (hdS xs), b.dec (hdS (tlS xs)), c.dec (hdS (tlS (tlS xs))), d.dec (hdS (tlS (tlS (tlS xs)))), e.dec (hdS (tlS (tlS (tlS (tlS xs))))), f.dec (hdS (tlS (tlS (tlS (tlS (tlS xs)))))), g.dec (hdS (tlS (tlS (tlS (tlS (tlS (tlS xs)))))))), fun x => [a.enc x.1, b.enc x.2.1, c.enc x.2.2.1, d.enc x.2.2.2.1, e.enc x.2.2.2.2.1, f.enc x.2.2.2.2.2.1, g.enc x.2.2.2.2.2.2], fun xs => by simp only [a.ok, b.ok, c.ok, d.ok, e.ok, f.ok, g.ok]; rfl⟩
end
def boxB (i x y w h : Int) : Body := ⟨i, x, y, 0, 0, w, h, false, false⟩
def ballB (i x y r : Int) : Body := ⟨i, x, y, 0, 0, r, r, true, false⟩
set_option maxHeartbeats 2000000 in
set_option maxRecDepth 8000 in
theorem At_walk : ∀ a, conj ((fun _ => []) a) → evFn (C := cx) [] [] 0 noHow Try.f18 (((rds2 (rdI .i64) (rdI .i64))).enc a) fun v H _ => resOut ((fun a => (Vec.mk a.1 a.2).sv) a) H v := by
  intro a _
  repeat' (first | (refine And.intro ?_ ?_) | (intro _) | exact rfl)
noncomputable def conAt : Con cx := walkCon 18 Try.call18 (rds2 (rdI .i64) (rdI .i64)) (fun _ => []) (fun a => (Vec.mk a.1 a.2).sv) (fun _ => noHow) [] (fun _ => rfl) follows Try.func18 (by kernel_rfl) At_walk
set_option maxHeartbeats 2000000 in
set_option maxRecDepth 8000 in
theorem Box_walk : ∀ a, conj ((fun _ => []) a) → evFn (C := cx) [conAt] [] 0 noHow Try.f27 (((rds5 (rdI .i64) (rdI .i64) (rdI .i64) (rdI .i64) (rdI .i64))).enc a) fun v H _ => resOut ((fun a => (boxB a.1 a.2.1 a.2.2.1 a.2.2.2.1 a.2.2.2.2).sv) a) H v := by
  intro a _
  repeat' (first | (refine And.intro ?_ ?_) | (intro _) | exact rfl)
noncomputable def conBox : Con cx := walkCon 27 Try.call27 (rds5 (rdI .i64) (rdI .i64) (rdI .i64) (rdI .i64) (rdI .i64)) (fun _ => []) (fun a => (boxB a.1 a.2.1 a.2.2.1 a.2.2.2.1 a.2.2.2.2).sv) (fun _ => noHow) [] (fun _ => rfl) follows Try.func27 (by kernel_rfl) Box_walk
set_option maxHeartbeats 2000000 in
set_option maxRecDepth 8000 in
theorem Ball_walk : ∀ a, conj ((fun _ => []) a) → evFn (C := cx) [conBox] [] 0 noHow Try.f29 (((rds4 (rdI .i64) (rdI .i64) (rdI .i64) (rdI .i64))).enc a) fun v H _ => resOut ((fun a => (ballB a.1 a.2.1 a.2.2.1 a.2.2.2).sv) a) H v := by
  intro a _
  repeat' (first | (refine And.intro ?_ ?_) | (intro _) | exact rfl)
noncomputable def conBall : Con cx := walkCon 29 Try.call29 (rds4 (rdI .i64) (rdI .i64) (rdI .i64) (rdI .i64)) (fun _ => []) (fun a => (ballB a.1 a.2.1 a.2.2.1 a.2.2.2).sv) (fun _ => noHow) [] (fun _ => rfl) follows Try.func29 (by kernel_rfl) Ball_walk
set_option maxHeartbeats 2000000 in
set_option maxRecDepth 8000 in
theorem Area_walk : ∀ a, conj ((fun _ => []) a) → evFn (C := cx) [conAt] [] 0 noHow Try.f31 (((rds4 (rdI .i64) (rdI .i64) (rdI .i64) (rdI .i64))).enc a) fun v H _ => resOut ((fun a => (Area.mk a.1 a.2.1 a.2.2.1 a.2.2.2).sv) a) H v := by
  intro a _
  repeat' (first | (refine And.intro ?_ ?_) | (intro _) | exact rfl)
noncomputable def conArea : Con cx := walkCon 31 Try.call31 (rds4 (rdI .i64) (rdI .i64) (rdI .i64) (rdI .i64)) (fun _ => []) (fun a => (Area.mk a.1 a.2.1 a.2.2.1 a.2.2.2).sv) (fun _ => noHow) [] (fun _ => rfl) follows Try.func31 (by kernel_rfl) Area_walk
/-- The first body with an ID, from the k-th on. -/
def findN (F : Nat → Body) (d : Int) : Nat → Nat → Body × Bool
  | _, 0 => (⟨0, 0, 0, 0, 0, 0, 0, false, false⟩, false)
  | k, r + 1 => match decide ((F k).iD = d) with | true => (F k, true) | false => findN F d (k + 1) r
theorem findN_step {F : Nat → Body} {d : Int} {k n : Nat} (h : k < n) : findN F d k (n - k) = match decide ((F k).iD = d) with | true => (F k, true) | false => findN F d (k + 1) (n - (k + 1)) := by
  rw [show n - k = (n - (k + 1)) + 1 by omega]; rfl
def findCut (n : Nat) (F : Nat → Body) (d : Int) : Cut := ⟨Nat, fun k => k ≤ n ∧ findN F d 0 n = findN F d k (n - k),
  fun k => ⟨[sl 1 (.v (.int .i64 d)), sl 4 (.p 0 0), sl 8 (.rs 9 n fun i => (F i).cells), sl 9 (.v (.int .i64 n)), sl 10 (.v (.int .i64 k))], [(0, .lay (Body.mk 0 0 0 0 0 0 0 false false).cells 36)], 1, 0, [], []⟩, fun k => n - k⟩
set_option maxHeartbeats 4000000 in
set_option maxRecDepth 8000 in
theorem Find_walk : ∀ a, conj ((fun a => [(a.1.1 : Int) ≤ 1000000]) a) → evFn (C := cx) [] [] 0 ⟨[], [], [2], 0⟩ Try.f15 (((rds2 rdBodies (rdI .i64))).enc a) fun v H _ => resOut ((fun a => .tup [(findN a.1.2 a.2 0 a.1.1).1.sv, .v (.bool (findN a.1.2 a.2 0 a.1.1).2)]) a) H v := by
  intro ⟨⟨n, F⟩, d⟩ hn
  replace hn : (n : Int) ≤ 1000000 := hn
  refine Exists.intro (findCut n F d) ?_
  refine And.intro ?_ ?_
  · refine ⟨(0 : Nat), [], [], trivial, ⟨Nat.zero_le _, rfl⟩, ?_⟩
    repeat' (first | (refine And.intro ?_ ?_) | (intro _) | exact rfl)
  refine fun (k : Nat) (hk : k ≤ n ∧ findN F d 0 n = findN F d k (n - k)) => ?_
  obtain ⟨k1, k2⟩ := hk
  refine And.intro (fun hb => ?_) (fun hb => ?_)
  · have hb : (k : Int) < n := of_decide_eq_true hb
    have e := findN_step (F := F) (d := d) (k := k) (n := n) (by omega)
    refine And.intro ⟨by omega, by omega⟩ ?_
    refine And.intro (fun hc => ?_) (fun hc => ?_)
    · have hc : decide ((F k).iD = d) = true := hc
      have he : findN F d 0 n = (F k, true) := by rw [k2, e, hc]
      simp only [he]
      repeat' (first | (refine And.intro ?_ ?_) | (intro _) | exact rfl)
    · have hc : decide ((F k).iD = d) = false := hc
      refine And.intro (by unfold I64; omega : I64 ((k : Int) + 1)) ?_
      refine ⟨k + 1, [], [], (by show n - (k + 1) < n - k; omega), ⟨by omega, by rw [k2, e, hc]⟩, ?_⟩
      repeat' (first | (refine And.intro ?_ ?_) | (intro _) | exact rfl)
  · have hb : ¬ (k : Int) < n := of_decide_eq_false hb
    have he : findN F d 0 n = (⟨0, 0, 0, 0, 0, 0, 0, false, false⟩, false) := by rw [k2, show n - k = 0 by omega]; rfl
    simp only [he]
    repeat' (first | (refine And.intro ?_ ?_) | (intro _) | exact rfl)
noncomputable def conFind : Con cx := walkCon 15 Try.call15 (rds2 rdBodies (rdI .i64)) (fun a => [(a.1.1 : Int) ≤ 1000000]) (fun a => .tup [(findN a.1.2 a.2 0 a.1.1).1.sv, .v (.bool (findN a.1.2 a.2 0 a.1.1).2)]) (fun _ => ⟨[], [], [2], 0⟩) [] (fun _ => rfl) follows Try.func15 (by kernel_rfl) Find_walk
def begV (x y : Int) : Vec := ⟨3 * x, 3 * y⟩
def stepV (dx dy : Int) : Vec := ⟨dx.tmod 16, dy.tmod 16⟩
/-- p + n v. -/
def goV (p v : Vec) (n : Int) : Vec := ⟨p.x + n * v.x, p.y + n * v.y⟩
def I8 (x : Int) : Prop := -128 ≤ x ∧ x ≤ 127
theorem tmod16 (x : Int) : -15 ≤ x.tmod 16 ∧ x.tmod 16 ≤ 15 := by
  rcases Int.le_total 0 x with h | h
  · have := Int.tmod_eq_emod_of_nonneg (b := 16) h
    omega
  · have e : x.tmod 16 = -((-x).tmod 16) := by rw [Int.neg_tmod, Int.neg_neg]
    have := Int.tmod_eq_emod_of_nonneg (a := -x) (b := 16) (by omega)
    omega
set_option maxHeartbeats 4000000 in
set_option maxRecDepth 8000 in
theorem Ends_walk : ∀ a, conj ((fun a => [I8 a.1, I8 a.2.1, I8 a.2.2.1, I8 a.2.2.2.1, 0 ≤ a.2.2.2.2 ∧ a.2.2.2.2 ≤ 100]) a) → evFn (C := cx) [conAt] [] 0 ⟨[2], [], [], 0⟩ Try.f12 (((rds5 (rdI .i8) (rdI .i8) (rdI .i8) (rdI .i8) (rdI .i64))).enc a) fun v H _ => resOut ((fun a => .tup [(begV a.1 a.2.1).sv, (goV (begV a.1 a.2.1) (stepV a.2.2.1 a.2.2.2.1) a.2.2.2.2).sv, (stepV a.2.2.1 a.2.2.2.1).sv]) a) H v := by
  intro ⟨x, y, dx, dy, n⟩ ⟨h1, h2, h3, h4, h5⟩
  have h1 : -128 ≤ x ∧ x ≤ 127 := h1
  have h2 : -128 ≤ y ∧ y ≤ 127 := h2
  have h3 : -128 ≤ dx ∧ dx ≤ 127 := h3
  have h4 : -128 ≤ dy ∧ dy ≤ 127 := h4
  have h5 : 0 ≤ n ∧ n ≤ 100 := h5
  have b1 := mul_bd (x := n) (y := dx.tmod 16) (a := 100) (b := 15) (by omega) (tmod16 dx)
  have b2 := mul_bd (x := n) (y := dy.tmod 16) (a := 100) (b := 15) (by omega) (tmod16 dy)
  repeat' (first | (refine And.intro ?_ ?_) | (intro _) | exact rfl)
  all_goals (dsimp only [rds2, rdI, SV.iv, hdS, tlS]; omega)
noncomputable def conEnds : Con cx := walkCon 12 Try.call12 (rds5 (rdI .i8) (rdI .i8) (rdI .i8) (rdI .i8) (rdI .i64)) (fun a => [I8 a.1, I8 a.2.1, I8 a.2.2.1, I8 a.2.2.2.1, 0 ≤ a.2.2.2.2 ∧ a.2.2.2.2 ≤ 100]) (fun a => .tup [(begV a.1 a.2.1).sv, (goV (begV a.1 a.2.1) (stepV a.2.2.1 a.2.2.2.1) a.2.2.2.2).sv, (stepV a.2.2.1 a.2.2.2.1).sv]) (fun _ => ⟨[2], [], [], 0⟩) [2] (fun _ => rfl) follows Try.func12 (by kernel_rfl) Ends_walk
def madeB (i : Nat) (f : Form) : Body := ⟨2 + 2 * i, 3 * f.x, 3 * f.y, 0, 0, 1 + f.w.tmod 100, bif f.round then 1 + f.w.tmod 100 else 1 + f.h.tmod 100, f.round, false⟩
def Form.Ok (f : Form) : Prop := I8 f.x ∧ I8 f.y ∧ (0 ≤ f.w ∧ f.w ≤ 255) ∧ 0 ≤ f.h ∧ f.h ≤ 255
def rdForms : Rd (Nat × (Nat → Form)) := ⟨.rs 5 0 fun _ => rdForm.pat.al, fun x => (x.rn, fun i => Form.of (.agg (x.rf i))), fun a => .rs 5 a.1 fun i => (a.2 i).cells, fun _ => rfl⟩
def madeN (n : Nat) : Nat := if n ≤ 20 then n else 20
theorem madeN_le (n : Nat) : madeN n ≤ 20 := by unfold madeN; split <;> omega
theorem tmod100 {x : Int} (h : 0 ≤ x) : 0 ≤ x.tmod 100 ∧ x.tmod 100 ≤ 99 := by
  have := Int.tmod_eq_emod_of_nonneg (b := 100) h
  omega
def madeCut (n : Nat) (F : Nat → Form) : Cut := ⟨Nat, fun k => k ≤ madeN n,
  fun k => ⟨[sl 0 (.rs 5 n fun i => (F i).cells), sl 3 (.g 0 1 9 0 k), sl 4 (.v (.int .i64 k))], [(0, .lst 1 9 k (fun i => (madeB i (F i)).cells) 36)], 2, 0, [], []⟩, fun k => 20 - k⟩
theorem bifP {α : Type} {k i : Nat} {f : Nat → α} {x : α} (hi : i < k + 1) (h : f k = x) : f i = bif Nat.ble k i then x else f i := by
  cases hb : Nat.ble k i with
  | false => rfl
  | true =>
    have := Nat.le_of_ble_eq_true hb
    obtain rfl : i = k := by omega
    exact h
set_option maxHeartbeats 4000000 in
set_option maxRecDepth 8000 in
theorem Made_walk : ∀ a, conj ((fun a => [(a.1 : Int) ≤ 9223372036854775807, ∀ i, i < madeN a.1 → (a.2 i).Ok]) a) → evFn (C := cx) [conBox] [] 0 ⟨[], [], [3], 0⟩ Try.f11 (((rds1 rdForms)).enc a) fun v H _ => resOutF ((fun a => .rs 9 (madeN a.1) fun i => (madeB i (a.2 i)).cells) a) H v := by
  intro ⟨n, F⟩ ⟨hn, hF⟩
  replace hn : (n : Int) ≤ 9223372036854775807 := hn
  replace hF : ∀ i, i < madeN n → (F i).Ok := hF
  refine Exists.intro (madeCut n F) ?_
  refine And.intro ?_ ?_
  · refine ⟨(0 : Nat), [], [.slot2 3 9 36], trivial, Nat.zero_le _, ?_⟩
    repeat' (first | (refine And.intro ?_ ?_) | (intro _) | exact rfl)
    all_goals exact absurd ‹_ < 0› (Nat.not_lt_zero _)
  refine fun (k : Nat) (hk : k ≤ madeN n) => ?_
  refine And.intro (fun hb => ?_) (fun hb => ?_)
  · have hb : (decide ((k : Int) < n) && decide ((k : Int) < 20)) = true := hb
    simp only [Bool.and_eq_true, decide_eq_true_eq] at hb
    have hk2 : k < madeN n := by unfold madeN; split <;> omega
    obtain ⟨⟨f1, f2⟩, ⟨f3, f4⟩, ⟨f5, f6⟩, f7, f8⟩ := hF k hk2
    have m1 := tmod100 f5
    have m2 := tmod100 f7
    refine And.intro ⟨by omega, by omega⟩ ?_
    refine And.intro (by unfold I64; omega : I64 (2 * (k : Int))) ?_
    refine And.intro (by unfold I64; omega : I64 (2 + 2 * (k : Int))) ?_
    refine And.intro (by unfold I64; omega : I64 ((F k).x)) ?_
    refine And.intro (by unfold I64; omega : I64 (3 * (F k).x)) ?_
    refine And.intro (by unfold I64; omega : I64 ((F k).y)) ?_
    refine And.intro (by unfold I64; omega : I64 (3 * (F k).y)) ?_
    refine And.intro (by unfold I64; omega : I64 ((F k).w)) ?_
    refine And.intro (by unfold I64; omega : I64 (1 + (F k).w.tmod 100)) ?_
    refine And.intro (by unfold I64; omega : I64 ((F k).h)) ?_
    refine And.intro (by unfold I64; omega : I64 (1 + (F k).h.tmod 100)) ?_
    refine And.intro (fun hr => ?_) (fun hr => ?_)
    · have hr : (F k).round = true := hr
      refine And.intro ⟨(⟨Nat.le_trans (by omega : k + 1 ≤ 1000) (by decide), by omega⟩ : fitO (k + 1) 64), fun _ _ _ => ⟨rfl, rfl, rfl, rfl, rfl, rfl, rfl, trivial, trivial, trivial⟩⟩ ?_
      refine And.intro (by unfold I64; omega : I64 ((k : Int) + 1)) ?_
      refine ⟨k + 1, [(1, 5)], [], (by show 20 - (k + 1) < 20 - k; omega), (by omega : k + 1 ≤ madeN n), ?_⟩
      repeat' (first | (refine And.intro ?_ ?_) | (intro _) | exact rfl)
      · refine bifP (f := fun i => (madeB i (F i)).iD) ‹_› ?_
        first | rfl | (show (bif (F k).round then _ else _) = _; rw [hr]; rfl) | exact hr
      · refine bifP (f := fun i => (madeB i (F i)).posX) ‹_› ?_
        first | rfl | (show (bif (F k).round then _ else _) = _; rw [hr]; rfl) | exact hr
      · refine bifP (f := fun i => (madeB i (F i)).posY) ‹_› ?_
        first | rfl | (show (bif (F k).round then _ else _) = _; rw [hr]; rfl) | exact hr
      · refine bifP (f := fun i => (madeB i (F i)).velX) ‹_› ?_
        first | rfl | (show (bif (F k).round then _ else _) = _; rw [hr]; rfl) | exact hr
      · refine bifP (f := fun i => (madeB i (F i)).velY) ‹_› ?_
        first | rfl | (show (bif (F k).round then _ else _) = _; rw [hr]; rfl) | exact hr
      · refine bifP (f := fun i => (madeB i (F i)).w) ‹_› ?_
        first | rfl | (show (bif (F k).round then _ else _) = _; rw [hr]; rfl) | exact hr
      · refine bifP (f := fun i => (madeB i (F i)).h) ‹_› ?_
        first | rfl | (show (bif (F k).round then _ else _) = _; rw [hr]; rfl) | exact hr
      · refine bifP (f := fun i => (madeB i (F i)).round) ‹_› ?_
        first | rfl | (show (bif (F k).round then _ else _) = _; rw [hr]; rfl) | exact hr
      · refine bifP (f := fun i => (madeB i (F i)).fixed) ‹_› ?_
        first | rfl | (show (bif (F k).round then _ else _) = _; rw [hr]; rfl) | exact hr
    · have hr : (F k).round = false := hr
      refine And.intro ⟨(⟨Nat.le_trans (by omega : k + 1 ≤ 1000) (by decide), by omega⟩ : fitO (k + 1) 64), fun _ _ _ => ⟨rfl, rfl, rfl, rfl, rfl, rfl, rfl, trivial, trivial, trivial⟩⟩ ?_
      refine And.intro (by unfold I64; omega : I64 ((k : Int) + 1)) ?_
      refine ⟨k + 1, [(1, 5)], [], (by show 20 - (k + 1) < 20 - k; omega), (by omega : k + 1 ≤ madeN n), ?_⟩
      repeat' (first | (refine And.intro ?_ ?_) | (intro _) | exact rfl)
      · refine bifP (f := fun i => (madeB i (F i)).iD) ‹_› ?_
        first | rfl | (show (bif (F k).round then _ else _) = _; rw [hr]; rfl) | exact hr
      · refine bifP (f := fun i => (madeB i (F i)).posX) ‹_› ?_
        first | rfl | (show (bif (F k).round then _ else _) = _; rw [hr]; rfl) | exact hr
      · refine bifP (f := fun i => (madeB i (F i)).posY) ‹_› ?_
        first | rfl | (show (bif (F k).round then _ else _) = _; rw [hr]; rfl) | exact hr
      · refine bifP (f := fun i => (madeB i (F i)).velX) ‹_› ?_
        first | rfl | (show (bif (F k).round then _ else _) = _; rw [hr]; rfl) | exact hr
      · refine bifP (f := fun i => (madeB i (F i)).velY) ‹_› ?_
        first | rfl | (show (bif (F k).round then _ else _) = _; rw [hr]; rfl) | exact hr
      · refine bifP (f := fun i => (madeB i (F i)).w) ‹_› ?_
        first | rfl | (show (bif (F k).round then _ else _) = _; rw [hr]; rfl) | exact hr
      · refine bifP (f := fun i => (madeB i (F i)).h) ‹_› ?_
        first | rfl | (show (bif (F k).round then _ else _) = _; rw [hr]; rfl) | exact hr
      · refine bifP (f := fun i => (madeB i (F i)).round) ‹_› ?_
        first | rfl | (show (bif (F k).round then _ else _) = _; rw [hr]; rfl) | exact hr
      · refine bifP (f := fun i => (madeB i (F i)).fixed) ‹_› ?_
        first | rfl | (show (bif (F k).round then _ else _) = _; rw [hr]; rfl) | exact hr
  · have hb : (decide ((k : Int) < n) && decide ((k : Int) < 20)) = false := hb
    simp only [Bool.and_eq_false_iff, decide_eq_false_iff_not] at hb
    have hk2 : k = madeN n := by unfold madeN at *; split at hk <;> split <;> omega
    subst hk2
    refine And.intro (fun _ _ => rfl) ?_
    repeat' (first | (refine And.intro ?_ ?_) | (intro _) | exact rfl)
    all_goals (rw [Nat.zero_add])
noncomputable def conMade : Con cx := walkConF 11 Try.call11 (rds1 rdForms) (fun a => [(a.1 : Int) ≤ 9223372036854775807, ∀ i, i < madeN a.1 → (a.2 i).Ok]) (fun a => .rs 9 (madeN a.1) fun i => (madeB i (a.2 i)).cells) (fun _ => ⟨[], [], [3], 0⟩) [] (fun _ => rfl) follows Try.func11 (by kernel_rfl) Made_walk
end Go.Proofs.Ytcbpajkgmpibgaa
