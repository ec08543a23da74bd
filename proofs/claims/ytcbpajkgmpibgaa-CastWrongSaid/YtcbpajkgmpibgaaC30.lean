/- CastWrong: the walk. -/
import Derived.Test.YtcbpajkgmpibgaaC29
namespace Go.Proofs.Ytcbpajkgmpibgaa
open Go.RowKit

def wH (a : Bool) : Heap := [(0, .lay b5.cells 36), (1, .lay zV.cells 28), (2, .lay (farV a).cells 28)]
def wS (m : Nat) (F : Nat → Form) (lo hi : Int) : List (Nat × Slot) := [sl 1 (.v (.int .i64 lo)), sl 2 (.v (.int .i64 hi)), sl 9 (.rs 9 m fun i => (madeB i (F i)).cells), sl 10 (.p 0 0), sl 11 (.p 1 0), sl 12 (.p 2 0)]
def wr1 (m : Nat) (F : Nat → Form) (lo hi : Int) (a : Bool) : Cut := ⟨Unit, fun _ => True, fun _ => ⟨wS m F lo hi, wH a, 3, 0, [], []⟩, fun _ => 0⟩
def wr2 (m : Nat) (F : Nat → Form) (lo hi : Int) (a : Bool) : Cut := ⟨Nat, fun k => k ≤ 7, fun k => ⟨sl 80 (.rs 14 7 fun i => (wrC lo hi (farV a) i).cells) :: sl 81 (.v (.int .i64 7)) :: sl 82 (.v (.int .i64 k)) :: wS m F lo hi, wH a, 3, 0, [], []⟩, fun k => 7 - k⟩
theorem seven_al {p : Nat → Prop} (h0 : p 0) (h1 : p 1) (h2 : p 2) (h3 : p 3) (h4 : p 4) (h5 : p 5) (h6 : p 6) : ∀ i, i < 7 → p i := fun i hi => by
  match i, hi with
  | 0, _ => exact h0
  | 1, _ => exact h1
  | 2, _ => exact h2
  | 3, _ => exact h3
  | 4, _ => exact h4
  | 5, _ => exact h5
  | 6, _ => exact h6
def f2B : Nat → Body := fun i => Body.of (.agg (chunk (List.drop 0 (b5.cells ++ b5.cells)) 9 i))
def nilF : Nat → Body := fun i => Body.of (.agg ((SV.v (.slice none 0 0)).rf i))
def arL (a : Area) : Nat → Area := fun i => Area.of (.agg (chunk (List.drop 0 a.cells) 4 i))
def a3 : Area := ⟨0, 0, 1, 1⟩
def a4 : Area := ⟨1, 0, 0, 1⟩
theorem wr_t1 : hitsErr 2 f2B zV zV = 2 := by kernel_rfl
theorem wr_t2 : firstE 0 nilF zV zV = (0, 6) := by kernel_rfl
theorem wr_t4 : insideR 1 (arL a4) zV = 2 := by kernel_rfl
theorem wr_t5 (a : Bool) : crossR 1 (arL a3) zV (farV a) = 3 ∧ ∀ j, crossE j 1 (arL a3) zV (farV a) = [] := by
  have h : crossR 1 (arL a3) zV (farV a) = 3 := by cases a <;> kernel_rfl
  exact ⟨h, fun j => by unfold crossE; rw [h]; rfl⟩
theorem wr_t6 {lo : Int} (h : lo ≤ -2097153) (a : Bool) : crossR 1 (arL ⟨0, 0, 1, lo⟩) zV (farV a) = 2 := bad_ar (by decide) (by
  show (spanB 0 1 && spanB 0 lo) = false
  have : spanB 0 lo = false := by unfold spanB; rw [decide_eq_false (by omega : ¬ (0 : Int) ≤ lo)]; simp
  rw [this, Bool.and_false])
set_option maxHeartbeats 20000000 in
set_option maxRecDepth 8000 in
theorem wrong_walk (n : Nat) (F : Nat → Form) (low high : Int) (a : Bool) (hn : (n : Int) ≤ 9223372036854775807) (hF : ∀ i, i < madeN n → (F i).Ok) (hlo : I64 low) (hhi : I64 high) : evFn (C := cx) [conAwake, conMade, conHits, conMeets, conAt, conPart, conBefore, conBall, conArea, conInsd, conCrs, conFirst] [] 0 ⟨[], [8], [9], 0⟩ Try.f9 ((rds4 rdForms (rdI .i64) (rdI .i64) rdB).enc ((n, F), low, high, a)) fun v H _ => resOut (.bl true) H v := by
  obtain ⟨m, hm⟩ : ∃ m, m = madeN n := ⟨_, rfl⟩
  have hm20 : m ≤ 20 := by rw [hm]; exact madeN_le n
  have hok : ∀ i, i < m → (madeB i (F i)).ok = true := fun i hi => madeB_ok (hF i (by omega)) (by omega)
  obtain ⟨lo, elo⟩ : ∃ lo, lo = min low (-2097153) := ⟨_, rfl⟩
  obtain ⟨hi, ehi⟩ : ∃ hi, hi = max high 2097153 := ⟨_, rfl⟩
  have l1 : lo ≤ -2097153 := by omega
  have h1 : 2097153 ≤ hi := by omega
  refine And.intro ⟨fun _ _ => trivial, hn, hF⟩ ?_
  refine Exists.intro (wr1 m F lo hi a) ?_
  refine And.intro ?_ ?_
  · subst hm elo ehi
    refine And.intro (fun hb => ?_) (fun hb => ?_)
    · have hb : a = true := hb
      subst hb
      refine ⟨(), [], [], trivial, trivial, ?_⟩
      repeat' (first | (refine And.intro ?_ ?_) | (intro _) | exact rfl)
    · have hb : a = false := hb
      subst hb
      refine ⟨(), [], [], trivial, trivial, ?_⟩
      repeat' (first | (refine And.intro ?_ ?_) | (intro _) | exact rfl)
  clear hm hn hF elo ehi
  refine fun (_ : Unit) (_ : True) => ?_
  refine Exists.intro (wr2 m F lo hi a) ?_
  refine And.intro ?_ ?_
  · refine ⟨(0 : Nat), [], [.freeze 3], trivial, Nat.zero_le _, ?_⟩
    refine And.intro rfl ?_
    refine And.intro (seven_al ?_ ?_ ?_ ?_ ?_ ?_ ?_) ?_
    all_goals repeat' (first | (refine And.intro ?_ ?_) | (intro _) | exact rfl)
  refine fun (k : Nat) (hk : k ≤ 7) => ?_
  refine And.intro (fun hb => ?_) (fun hb => ?_)
  · have hb : (k : Int) < 7 := of_decide_eq_true hb
    have hk7 : k < 7 := by omega
    obtain ⟨p1, p2, p3⟩ := cs_ok (a := a) l1 h1 hk7
    obtain ⟨q1, q2⟩ := cs_hits (a := a) l1 h1 hm20 hok hk7
    have f1 : fitO m 64 := ⟨Nat.le_trans (by omega : m ≤ 1000) (by decide), by omega⟩
    have f2 : fitO (m + 1) 64 := ⟨Nat.le_trans (by omega : m + 1 ≤ 1000) (by decide), by omega⟩
    refine And.intro ⟨by omega, by omega⟩ ?_
    refine And.intro f1 ?_
    refine And.intro ⟨f2, fun _ _ _ => ⟨rfl, rfl, rfl, rfl, rfl, rfl, rfl, trivial, trivial, trivial⟩⟩ ?_
    refine And.intro ⟨fun _ _ => trivial, (by omega : ((m + 1 : Nat) : Int) ≤ 1000000), q2⟩ ?_
    refine And.intro (fun hc => ?_) (fun hc => ?_)
    · have hc : (decide (¬ (partE (wrC lo hi (farV a) k).b (wrC lo hi (farV a) k).p (wrC lo hi (farV a) k).q).2 = (wrC lo hi (farV a) k).e) || decide (¬ (beforeE (wrC lo hi (farV a) k).b b5 (wrC lo hi (farV a) k).p (wrC lo hi (farV a) k).q).2 = (wrC lo hi (farV a) k).e) || decide (¬ (partE (wrC lo hi (farV a) k).b (wrC lo hi (farV a) k).p (wrC lo hi (farV a) k).q).1 = 0) || decide (¬ (beforeE (wrC lo hi (farV a) k).b b5 (wrC lo hi (farV a) k).p (wrC lo hi (farV a) k).q).1 = 0) || meetsB (wrC lo hi (farV a) k).b (wrC lo hi (farV a) k).p (wrC lo hi (farV a) k).q || (decide (¬ (wrC lo hi (farV a) k).e = 6) && (decide (¬ hitsErr (m + 1) (apB m F (wrC lo hi (farV a) k).b) (wrC lo hi (farV a) k).p (wrC lo hi (farV a) k).q = (wrC lo hi (farV a) k).e) || decide (¬ ((hitsE (m + 1) (apB m F (wrC lo hi (farV a) k).b) (wrC lo hi (farV a) k).p (wrC lo hi (farV a) k).q).length : Int) = 0)))) = true := hc
      exfalso
      rw [p1, p2, p3] at hc
      by_cases h6 : (wrC lo hi (farV a) k).e = 6
      · rw [decide_eq_false (fun h => h h6 : ¬ ¬ (wrC lo hi (farV a) k).e = 6)] at hc
        simp at hc
      · obtain ⟨e1, e2⟩ := q1 h6
        rw [e1, e2] at hc
        simp at hc
    · clear hc
      refine And.intro (by unfold I64; omega : I64 ((k : Int) + 1)) ?_
      refine ⟨k + 1, [], [], (by show 7 - (k + 1) < 7 - k; omega), (by omega : k + 1 ≤ 7), ?_⟩
      repeat' (first | (refine And.intro ?_ ?_) | (intro _) | exact rfl)
  · clear hb
    have i1 : (1 : Int) ≤ 1000000 := by decide
    obtain ⟨t5, t5'⟩ := wr_t5 a
    have t6 := wr_t6 l1 a
    have t3 : insideR 1 (arL a3) ⟨hi, 0⟩ = 2 := bad_pt (inB_highx h1)
    refine And.intro ⟨two_al trivial trivial, (by decide : (2 : Int) ≤ 1000000), fun _ => Nat.le_trans (idsK_len 2) (by decide)⟩ ?_
    refine And.intro ⟨(by decide : ((0 : Nat) : Int) ≤ 1000000), fun _ => (by decide : 0 ≤ 20)⟩ ?_
    refine And.intro ⟨one_al trivial, i1⟩ ?_
    refine And.intro ⟨one_al trivial, i1⟩ ?_
    refine And.intro ⟨one_al trivial, i1⟩ ?_
    refine And.intro ⟨one_al trivial, i1⟩ ?_
    have s1 : ((crossE 0 1 (arL a3) zV (farV a)).length : Int) + ((crossE 1 1 (arL a3) zV (farV a)).length : Int) = 0 := by rw [t5', t5']; rfl
    have s2 : ((crossE 0 1 (arL a3) zV (farV a)).length : Int) + ((crossE 1 1 (arL a3) zV (farV a)).length : Int) + ((crossE 2 1 (arL a3) zV (farV a)).length : Int) = 0 := by rw [t5', t5', t5']; rfl
    refine And.intro (fun _ => i64_0 s1) ?_
    refine And.intro (fun _ => i64_0 s2) ?_
    refine Eq.trans (a := true) (b := decide (hitsErr 2 f2B zV zV = 2) && decide ((firstE 0 nilF zV zV).2 = 6) && decide (insideR 1 (arL a3) ⟨hi, 0⟩ = 2) && decide (insideR 1 (arL a4) zV = 2) && decide (crossR 1 (arL a3) zV (farV a) = 3) && decide (crossR 1 (arL ⟨0, 0, 1, lo⟩) zV (farV a) = 2) && decide (((crossE 0 1 (arL a3) zV (farV a)).length : Int) + ((crossE 1 1 (arL a3) zV (farV a)).length : Int) + ((crossE 2 1 (arL a3) zV (farV a)).length : Int) = 0)) ?_ rfl
    rw [wr_t1, wr_t2, t3, wr_t4, t5, t6, s2]
    rfl
end Go.Proofs.Ytcbpajkgmpibgaa
