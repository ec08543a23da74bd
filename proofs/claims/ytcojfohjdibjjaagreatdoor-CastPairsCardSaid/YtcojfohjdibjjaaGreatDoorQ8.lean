/- at, box, ball, area, find, ends, Made. -/
import Derived.Test.YtcojfohjdibjjaaGreatDoorQ7
namespace Go.Proofs.YtcojfohjdibjjaaGreatDoor
open Go.RowKit

section
variable {α β γ δ ε ζ η : Type}
def rds5 (a : Rd α) (b : Rd β) (c : Rd γ) (d : Rd δ) (e : Rd ε) : Rds (α × β × γ × δ × ε) := ⟨[a.pat, b.pat, c.pat, d.pat, e.pat], fun xs => (a.dec (hdS xs), b.dec (hdS (tlS xs)), c.dec (hdS (tlS (tlS xs))), d.dec (hdS (tlS (tlS (tlS xs)))), e.dec (hdS (tlS (tlS (tlS (tlS xs)))))), fun x => [a.enc x.1, b.enc x.2.1, c.enc x.2.2.1, d.enc x.2.2.2.1, e.enc x.2.2.2.2], fun xs => by simp only [a.ok, b.ok, c.ok, d.ok, e.ok]; rfl⟩
def rds6 (a : Rd α) (b : Rd β) (c : Rd γ) (d : Rd δ) (e : Rd ε) (f : Rd ζ) : Rds (α × β × γ × δ × ε × ζ) := ⟨[a.pat, b.pat, c.pat, d.pat, e.pat, f.pat], fun xs => (a.dec (hdS xs), b.dec (hdS (tlS xs)), c.dec (hdS (tlS (tlS xs))), d.dec (hdS (tlS (tlS (tlS xs)))), e.dec (hdS (tlS (tlS (tlS (tlS xs))))), f.dec (hdS (tlS (tlS (tlS (tlS (tlS xs))))))), fun x => [a.enc x.1, b.enc x.2.1, c.enc x.2.2.1, d.enc x.2.2.2.1, e.enc x.2.2.2.2.1, f.enc x.2.2.2.2.2], fun xs => by simp only [a.ok, b.ok, c.ok, d.ok, e.ok, f.ok]; rfl⟩
def rds7 (a : Rd α) (b : Rd β) (c : Rd γ) (d : Rd δ) (e : Rd ε) (f : Rd ζ) (g : Rd η) : Rds (α × β × γ × δ × ε × ζ × η) := ⟨[a.pat, b.pat, c.pat, d.pat, e.pat, f.pat, g.pat], fun xs => (a.dec (hdS xs), b.dec (hdS (tlS xs)), c.dec (hdS (tlS (tlS xs))), d.dec (hdS (tlS (tlS (tlS xs)))), e.dec (hdS (tlS (tlS (tlS (tlS xs))))), f.dec (hdS (tlS (tlS (tlS (tlS (tlS xs)))))), g.dec (hdS (tlS (tlS (tlS (tlS (tlS (tlS xs)))))))), fun x => [a.enc x.1, b.enc x.2.1, c.enc x.2.2.1, d.enc x.2.2.2.1, e.enc x.2.2.2.2.1, f.enc x.2.2.2.2.2.1, g.enc x.2.2.2.2.2.2], fun xs => by simp only [a.ok, b.ok, c.ok, d.ok, e.ok, f.ok, g.ok]; rfl⟩
end
def boxB (i x y w h : Int) : Body := ⟨i, x, y, 0, 0, w, h, false, false⟩
def ballB (i x y r : Int) : Body := ⟨i, x, y, 0, 0, r, r, true, false⟩
set_option maxHeartbeats 2000000 in
set_option maxRecDepth 8000 in
theorem At_walk : ∀ a, conj ((fun _ => []) a) → evFn (C := cx) [] [] 0 noHow Tryz.f12 (((rds2 (rdI .i64) (rdI .i64))).enc a) fun v H _ => resOut ((fun a => (Vec.mk a.1 a.2).sv) a) H v := by
  intro a _
  repeat' (first | (refine And.intro ?_ ?_) | (intro _) | exact rfl)
noncomputable def conAt : Con cx := walkCon 12 Tryz.call12 (rds2 (rdI .i64) (rdI .i64)) (fun _ => []) (fun a => (Vec.mk a.1 a.2).sv) (fun _ => noHow) [] (fun _ => rfl) follows Tryz.func12 (by kernel_rfl) At_walk
set_option maxHeartbeats 2000000 in
set_option maxRecDepth 8000 in
theorem Box_walk : ∀ a, conj ((fun _ => []) a) → evFn (C := cx) [conAt] [] 0 noHow Tryz.f13 (((rds5 (rdI .i64) (rdI .i64) (rdI .i64) (rdI .i64) (rdI .i64))).enc a) fun v H _ => resOut ((fun a => (boxB a.1 a.2.1 a.2.2.1 a.2.2.2.1 a.2.2.2.2).sv) a) H v := by
  intro a _
  repeat' (first | (refine And.intro ?_ ?_) | (intro _) | exact rfl)
noncomputable def conBox : Con cx := walkCon 13 Tryz.call13 (rds5 (rdI .i64) (rdI .i64) (rdI .i64) (rdI .i64) (rdI .i64)) (fun _ => []) (fun a => (boxB a.1 a.2.1 a.2.2.1 a.2.2.2.1 a.2.2.2.2).sv) (fun _ => noHow) [] (fun _ => rfl) follows Tryz.func13 (by kernel_rfl) Box_walk
set_option maxHeartbeats 2000000 in
set_option maxRecDepth 8000 in
theorem Ball_walk : ∀ a, conj ((fun _ => []) a) → evFn (C := cx) [conBox] [] 0 noHow Tryz.f14 (((rds4 (rdI .i64) (rdI .i64) (rdI .i64) (rdI .i64))).enc a) fun v H _ => resOut ((fun a => (ballB a.1 a.2.1 a.2.2.1 a.2.2.2).sv) a) H v := by
  intro a _
  repeat' (first | (refine And.intro ?_ ?_) | (intro _) | exact rfl)
noncomputable def conBall : Con cx := walkCon 14 Tryz.call14 (rds4 (rdI .i64) (rdI .i64) (rdI .i64) (rdI .i64)) (fun _ => []) (fun a => (ballB a.1 a.2.1 a.2.2.1 a.2.2.2).sv) (fun _ => noHow) [] (fun _ => rfl) follows Tryz.func14 (by kernel_rfl) Ball_walk
set_option maxHeartbeats 2000000 in
set_option maxRecDepth 8000 in
theorem Area_walk : ∀ a, conj ((fun _ => []) a) → evFn (C := cx) [conAt] [] 0 noHow Tryz.f17 (((rds4 (rdI .i64) (rdI .i64) (rdI .i64) (rdI .i64))).enc a) fun v H _ => resOut ((fun a => (Area.mk a.1 a.2.1 a.2.2.1 a.2.2.2).sv) a) H v := by
  intro a _
  repeat' (first | (refine And.intro ?_ ?_) | (intro _) | exact rfl)
noncomputable def conArea : Con cx := walkCon 17 Tryz.call17 (rds4 (rdI .i64) (rdI .i64) (rdI .i64) (rdI .i64)) (fun _ => []) (fun a => (Area.mk a.1 a.2.1 a.2.2.1 a.2.2.2).sv) (fun _ => noHow) [] (fun _ => rfl) follows Tryz.func17 (by kernel_rfl) Area_walk
/-- The first body with an ID, from the k-th on. -/
def findN (F : Nat → Body) (d : Int) : Nat → Nat → Body × Bool
  | _, 0 => (⟨0, 0, 0, 0, 0, 0, 0, false, false⟩, false)
  | k, r + 1 => match decide ((F k).iD = d) with | true => (F k, true) | false => findN F d (k + 1) r
theorem findN_step {F : Nat → Body} {d : Int} {k n : Nat} (h : k < n) : findN F d k (n - k) = match decide ((F k).iD = d) with | true => (F k, true) | false => findN F d (k + 1) (n - (k + 1)) := by
  rw [show n - k = (n - (k + 1)) + 1 by omega]; rfl
def findCut (n : Nat) (F : Nat → Body) (d : Int) : Cut := ⟨Nat, fun k => k ≤ n ∧ findN F d 0 n = findN F d k (n - k),
  fun k => ⟨[sl 1 (.v (.int .i64 d)), sl 4 (.p 0 0), sl 8 (.rs 9 n fun i => (F i).cells), sl 9 (.v (.int .i64 n)), sl 10 (.v (.int .i64 k))], [(0, .lay (Body.mk 0 0 0 0 0 0 0 false false).cells 36)], 1, 0, [], []⟩, fun k => n - k⟩
def begV (x y : Int) : Vec := ⟨3 * x, 3 * y⟩
def stepV (dx dy : Int) : Vec := ⟨dx.tmod 16, dy.tmod 16⟩
/-- p + n v. -/
def goV (p v : Vec) (n : Int) : Vec := ⟨p.x + n * v.x, p.y + n * v.y⟩
def I8 (x : Int) : Prop := -128 ≤ x ∧ x ≤ 127
theorem tmod16 (x : Int) : -15 ≤ x.tmod 16 ∧ x.tmod 16 ≤ 15 := by
  rcases Int.le_total 0 x with h | h
  · have := Int.tmod_eq_emod_of_nonneg (b := 16) h
    omega
  · have e : x.tmod 16 = -((-x).tmod 16) := by rw [Int.neg_tmod, Int.neg_neg]
    have := Int.tmod_eq_emod_of_nonneg (a := -x) (b := 16) (by omega)
    omega
def madeB (i : Nat) (f : Form) : Body := ⟨2 + 2 * i, 3 * f.x, 3 * f.y, 0, 0, 1 + f.w.tmod 100, bif f.round then 1 + f.w.tmod 100 else 1 + f.h.tmod 100, f.round, false⟩
def Form.Ok (f : Form) : Prop := I8 f.x ∧ I8 f.y ∧ (0 ≤ f.w ∧ f.w ≤ 255) ∧ 0 ≤ f.h ∧ f.h ≤ 255
def rdForms : Rd (Nat × (Nat → Form)) := ⟨.rs 5 0 fun _ => rdForm.pat.al, fun x => (x.rn, fun i => Form.of (.agg (x.rf i))), fun a => .rs 5 a.1 fun i => (a.2 i).cells, fun _ => rfl⟩
def madeN (n : Nat) : Nat := if n ≤ 20 then n else 20
theorem madeN_le (n : Nat) : madeN n ≤ 20 := by unfold madeN; split <;> omega
theorem tmod100 {x : Int} (h : 0 ≤ x) : 0 ≤ x.tmod 100 ∧ x.tmod 100 ≤ 99 := by
  have := Int.tmod_eq_emod_of_nonneg (b := 100) h
  omega
def madeCut (n : Nat) (F : Nat → Form) : Cut := ⟨Nat, fun k => k ≤ madeN n,
  fun k => ⟨[sl 0 (.rs 5 n fun i => (F i).cells), sl 3 (.g 0 1 9 0 k), sl 4 (.v (.int .i64 k))], [(0, .lst 1 9 k (fun i => (madeB i (F i)).cells) 36)], 2, 0, [], []⟩, fun k => 20 - k⟩
theorem bifP {α : Type} {k i : Nat} {f : Nat → α} {x : α} (hi : i < k + 1) (h : f k = x) : f i = bif Nat.ble k i then x else f i := by
  cases hb : Nat.ble k i with
  | false => rfl
  | true =>
    have := Nat.le_of_ble_eq_true hb
    obtain rfl : i = k := by omega
    exact h
end Go.Proofs.YtcojfohjdibjjaaGreatDoor
