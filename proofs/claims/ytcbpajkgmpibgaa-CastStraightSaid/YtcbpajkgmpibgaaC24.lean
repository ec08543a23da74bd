/- CastStraight: the walk. -/
import Derived.Test.YtcbpajkgmpibgaaC23
namespace Go.Proofs.Ytcbpajkgmpibgaa
open Go.RowKit

def strCut (b : Body) (p : Vec) (n : Int) : Cut := ⟨Unit, fun _ => True,
  fun _ => ⟨[sl 9 (.p 2 0), sl 10 (.v (.int .i64 n)), sl 11 (.p 3 0), sl 12 (.p 4 0), sl 16 (.v (.bool (wantB b p n)))], [(2, .lay b.cells 36), (3, .lay p.cells 28), (4, .lay (hp p n).cells 28)], 5, 0, [], []⟩, fun _ => 0⟩
def strInv (b : Body) (p : Vec) (n : Int) : Cut := ⟨Nat, fun i => (i : Int) ≤ n ∧ ∀ j : Int, 0 ≤ j → j < i → b.hasB (hp p j) = false,
  fun i => ⟨[sl 9 (.p 2 0), sl 10 (.v (.int .i64 n)), sl 11 (.p 3 0), sl 17 (.v (.int .i64 (partW (whereP b p (hp p n)).1))), sl 19 (.v (.int .i64 i))], [(2, .lay b.cells 36), (3, .lay p.cells 28)], 5, 0, [], []⟩, fun i => n.toNat - i⟩
set_option maxHeartbeats 20000000 in
set_option maxRecDepth 8000 in
theorem straight_walk (f : Form) (x y l : Int) (hf : f.Ok) (hx : I8 x) (hy : I8 y) (hl : 0 ≤ l ∧ l ≤ 65535) : evFn (C := cx) [conAwake, conMade, conPart, conMeets, conAt, conHas] [] 0 ⟨[], [12], [18], 0⟩ Try.f8 ((rds4 rdForm (rdI .i8) (rdI .i8) (rdI .u16)).enc (f, x, y, l)) fun v H _ => resOut (.bl true) H v := by
  have hsm := madeB_Sm hf (i := 0) (by decide)
  have hbo := hsm.ok
  have tm : 0 ≤ l.tmod 4000 ∧ l.tmod 4000 ≤ 3999 := by
    have := Int.tmod_eq_emod_of_nonneg (b := 4000) hl.1
    omega
  obtain ⟨n, hn⟩ : ∃ n, n = l.tmod 4000 + 1 := ⟨_, rfl⟩
  have hn1 : 1 ≤ n ∧ n ≤ 4000 := by omega
  have bx := hsm.x
  have byy := hsm.y
  have bw := hsm.w
  have bh := hsm.h
  have hx' : -128 ≤ x ∧ x ≤ 127 := hx
  have hy' : -128 ≤ y ∧ y ≤ 127 := hy
  refine And.intro ⟨one_al trivial, (by decide : (1 : Int) ≤ 1000000000000000000), one_al hf⟩ ?_
  refine And.intro (⟨by decide, by decide⟩ : (0 : Int) ≤ 0 ∧ (0 : Int) < (madeN 1 : Nat)) ?_
  refine And.intro (by unfold I64; omega : I64 l) ?_
  refine And.intro (by unfold I64; omega : I64 (l.tmod 4000 + 1)) ?_
  refine And.intro (by unfold I64; omega : I64 x) ?_
  refine And.intro (by unfold I64; omega : I64 (3 * x)) ?_
  refine And.intro (by unfold I64; omega : I64 y) ?_
  refine And.intro (by unfold I64; omega : I64 (3 * y)) ?_
  rw [← hn]
  refine And.intro (by unfold I64; omega : I64 (3 * x + n)) ?_
  obtain ⟨t0, t1⟩ := nearT_rng (madeB 0 f) (begV x y) (n := n) (by omega)
  have px : (begV x y).x = 3 * x := rfl
  have py : (begV x y).y = 3 * y := rfl
  have dxr : -10000 ≤ nearT (madeB 0 f) (begV x y) n - (madeB 0 f).posX ∧ nearT (madeB 0 f) (begV x y) n - (madeB 0 f).posX ≤ 10000 := by omega
  have dyr : -10000 ≤ (begV x y).y - (madeB 0 f).posY ∧ (begV x y).y - (madeB 0 f).posY ≤ 10000 := by omega
  have sx := sq_bd dxr
  have sy := sq_bd dyr
  have sw := sq_bd (x := (madeB 0 f).w) (a := 1000) (by omega)
  refine And.intro (by unfold I64; omega : I64 (nearT (madeB 0 f) (begV x y) n - (madeB 0 f).posX)) ?_
  refine And.intro (by unfold I64; omega : I64 ((begV x y).y - (madeB 0 f).posY)) ?_
  refine And.intro (by unfold I64; omega : I64 ((nearT (madeB 0 f) (begV x y) n - (madeB 0 f).posX) * (nearT (madeB 0 f) (begV x y) n - (madeB 0 f).posX))) ?_
  refine And.intro (by unfold I64; omega : I64 (((begV x y).y - (madeB 0 f).posY) * ((begV x y).y - (madeB 0 f).posY))) ?_
  refine And.intro (by unfold I64; omega : I64 ((nearT (madeB 0 f) (begV x y) n - (madeB 0 f).posX) * (nearT (madeB 0 f) (begV x y) n - (madeB 0 f).posX) + ((begV x y).y - (madeB 0 f).posY) * ((begV x y).y - (madeB 0 f).posY))) ?_
  refine And.intro (by unfold I64; omega : I64 ((madeB 0 f).w * (madeB 0 f).w)) ?_
  refine Exists.intro (strCut (madeB 0 f) (begV x y) n) ?_
  refine And.intro ?_ ?_
  · refine And.intro (fun hr => ?_) (fun hr => ?_)
    · have hr : (!(madeB 0 f).round) = true := hr
      refine And.intro (by unfold I64; omega : I64 (-(nearT (madeB 0 f) (begV x y) n - (madeB 0 f).posX))) ?_
      refine And.intro (fun _ => (by unfold I64; omega : I64 (-((begV x y).y - (madeB 0 f).posY)))) ?_
      refine ⟨(), [], [], trivial, trivial, ?_⟩
      repeat' (first | (refine And.intro ?_ ?_) | (intro _) | exact rfl)
      all_goals (show wantB (madeB 0 f) (begV x y) n = _; unfold wantB; rw [hr]; rfl)
    · have hr : (!(madeB 0 f).round) = false := hr
      refine ⟨(), [], [], trivial, trivial, ?_⟩
      repeat' (first | (refine And.intro ?_ ?_) | (intro _) | exact rfl)
      all_goals (show wantB (madeB 0 f) (begV x y) n = _; unfold wantB; rw [hr]; rfl)
  refine fun (_ : Unit) (_ : True) => ?_
  have ip : (begV x y).In := ⟨by omega, by omega⟩
  have iq : (hp (begV x y) n).In := ⟨by simp only [hp]; omega, by simp only [hp]; omega⟩
  have hs : shortB (begV x y) (hp (begV x y) n) = true := by
    unfold shortB
    refine decide_eq_true ?_
    simp only [hp]
    omega
  have em := meets_eq hbo ip iq hs
  have ep := part_val hbo ip iq hs
  have wh := want_has (p := begV x y) (n := n) hbo
  have hwm : wantB (madeB 0 f) (begV x y) n = (whereP (madeB 0 f) (begV x y) (hp (begV x y) n)).2 := by
    rw [wh, Bool.eq_iff_iff]
    constructor
    · intro h
      rw [hp_eq] at h ⊢
      exact (has_meets hbo (by omega) t0 t1 h).1
    · intro h
      exact near_has hbo (by omega) h
  refine And.intro (fun hc => ?_) (fun hc => ?_)
  · have hc : ((meetsB (madeB 0 f) (begV x y) (hp (begV x y) n) != wantB (madeB 0 f) (begV x y) n) || (decide ((partE (madeB 0 f) (begV x y) (hp (begV x y) n)).2 = 0) != wantB (madeB 0 f) (begV x y) n)) = true := hc
    exfalso
    rw [hwm, em, ep] at hc
    cases hm : (whereP (madeB 0 f) (begV x y) (hp (begV x y) n)).2 <;> rw [hm] at hc <;> exact Bool.false_ne_true hc
  clear hc
  refine And.intro (fun hc => ?_) (fun hc => ?_)
  · exact rfl
  have hc : (!wantB (madeB 0 f) (begV x y) n) = false := hc
  have hm : (whereP (madeB 0 f) (begV x y) (hp (begV x y) n)).2 = true := by rw [← hwm]; simpa using hc
  clear hc
  have hp1 : (partE (madeB 0 f) (begV x y) (hp (begV x y) n)).1 = (partW (whereP (madeB 0 f) (begV x y) (hp (begV x y) n)).1 : Int) := by rw [ep, hm]; rfl
  refine Exists.intro (strInv (madeB 0 f) (begV x y) n) ?_
  refine And.intro ?_ ?_
  · refine ⟨(0 : Nat), [], [], trivial, ⟨(by omega : ((0 : Nat) : Int) ≤ n), fun j h1 h2 => by omega⟩, ?_⟩
    repeat' (first | (refine And.intro ?_ ?_) | (intro _) | exact rfl)
    all_goals exact hp1.symm
  refine fun (i : Nat) (hi : (i : Int) ≤ n ∧ ∀ j : Int, 0 ≤ j → j < i → (madeB 0 f).hasB (hp (begV x y) j) = false) => ?_
  obtain ⟨i1, i2⟩ := hi
  refine And.intro (fun _ => (by unfold I64; omega : I64 (3 * x + i))) ?_
  refine And.intro (fun hb => ?_) (fun hb => ?_)
  · have hb : (decide ((i : Int) < n) && !(madeB 0 f).hasB (hp (begV x y) i)) = true := hb
    simp only [Bool.and_eq_true, decide_eq_true_eq, Bool.not_eq_true'] at hb
    refine And.intro (by unfold I64; omega : I64 ((i : Int) + 1)) ?_
    refine ⟨i + 1, [], [], (by show n.toNat - (i + 1) < n.toNat - i; omega), ⟨(by omega : ((i + 1 : Nat) : Int) ≤ n), fun j h1 h2 => ?_⟩, ?_⟩
    · rcases Int.lt_or_le j i with h | h
      · exact i2 j h1 h
      · rw [show j = i by omega]; exact hb.2
    · repeat' (first | (refine And.intro ?_ ?_) | (intro _) | exact rfl)
  · have hb : (decide ((i : Int) < n) && !(madeB 0 f).hasB (hp (begV x y) i)) = false := hb
    have hF : FirstAt (madeB 0 f) (begV x y) n i := ⟨by omega, i1, i2, by
      simp only [Bool.and_eq_false_iff, decide_eq_false_iff_not, Bool.not_eq_false'] at hb
      rcases hb with hb | hb
      · exact .inl (by omega)
      · exact .inr hb⟩
    obtain ⟨l1, l2, l3⟩ := straight_law hbo (by omega) hm hF
    have d1 : (65536 * max ((i : Int) - 1) 0).tdiv n = 65536 * max ((i : Int) - 1) 0 / n := Int.tdiv_eq_ediv_of_nonneg (by omega)
    have d2 : (65536 * (i : Int)).tdiv n = 65536 * (i : Int) / n := Int.tdiv_eq_ediv_of_nonneg (by omega)
    have u1 := Int.ediv_le_self (a := 65536 * max ((i : Int) - 1) 0) n (by omega)
    have u2 := Int.ediv_le_self (a := 65536 * (i : Int)) n (by omega)
    have v1 := Int.ediv_nonneg (a := 65536 * max ((i : Int) - 1) 0) (b := n) (by omega) (by omega)
    have v2 := Int.ediv_nonneg (a := 65536 * (i : Int)) (b := n) (by omega) (by omega)
    refine And.intro (by unfold I64; omega : I64 ((i : Int) - 1)) ?_
    refine And.intro (by unfold I64; omega : I64 (65536 * max ((i : Int) - 1) 0)) ?_
    refine And.intro (⟨by omega, by unfold I64; omega⟩ : ¬ n = 0 ∧ I64 ((65536 * max ((i : Int) - 1) 0).tdiv n)) ?_
    refine And.intro (by unfold I64; omega : I64 (65536 * (i : Int))) ?_
    refine And.intro (⟨by omega, by unfold I64; omega⟩ : ¬ n = 0 ∧ I64 ((65536 * (i : Int)).tdiv n)) ?_
    refine Eq.trans (a := true) (b := (decide ((65536 * max ((i : Int) - 1) 0).tdiv n ≤ (partW (whereP (madeB 0 f) (begV x y) (hp (begV x y) n)).1 : Int)) && decide ((partW (whereP (madeB 0 f) (begV x y) (hp (begV x y) n)).1 : Int) ≤ (65536 * (i : Int)).tdiv n)) && ((madeB 0 f).round || decide ((partW (whereP (madeB 0 f) (begV x y) (hp (begV x y) n)).1 : Int) = (65536 * (i : Int)).tdiv n))) ?_ rfl
    rw [d1, d2, decide_eq_true l2, decide_eq_true l1]
    cases hr : (madeB 0 f).round with
    | true => rfl
    | false => rw [decide_eq_true (show _ = _ by have := l3 hr; omega)]; rfl
end Go.Proofs.Ytcbpajkgmpibgaa
