/- The contract of awake. -/
import Derived.Test.YtinefblphbicaaaDoorH16
namespace Go.Proofs.YtinefblphbicaaaDoor
open Go.RowKit

def awInvC : Cut := ⟨Nat × Watch, fun x => AInv x.1 x.2 ∧ x.1 ≤ 40, fun x => ⟨[sl 12 (.p 0 0), sl 106 (.v (.int .i64 x.1))], [(0, .lay x.2.cells 27)], 1, 0, [], []⟩, fun x => 40 - x.1⟩
instance {i : Input} : Decidable i.In := inferInstanceAs (Decidable (((_ ∧ _) ∧ (_ ∧ _)) ∧ (_ ∧ _) ∧ (_ ∧ _)))
theorem nope {b : Bool} (h : b = false) (k : b = !false) : False := by rw [h] at k; cases k
theorem ne_no {n m : Int} (h : n = m) : decide (¬ n = m) = false := decide_eq_false fun k => k h
theorem flag_no {l f : Fam} {x : Int} (h1 : l.n = 1) (h2 : l.g 0 = x) (h3 : f.n = 1) (h4 : f.g 0 = x) : (!(l.same f)) = false := by
  rw [same_yes (h1.trans h3.symm) fun i hi => by obtain rfl : i = 0 := by omega
                                                 exact h2.trans h4.symm]
  rfl
set_option maxHeartbeats 4000000 in
theorem awake_walk : ∀ a : Unit, conj [] → evFn (C := cx) [conCheck, conFlags] [] 0 ⟨[1005, 1011], [], [8], 0⟩ Tryd.f11 (rds0.enc a) fun v H _ => resOut (.bl true) H v := by
  intro _ _
  obtain ⟨a1, a2, a3, a4⟩ := aw_first
  obtain ⟨b1, b2, b3, b4, b5⟩ := aw_second
  obtain ⟨c1, c2, c3, c4, c5, c6, c7⟩ := aw_third
  have hI := aw_inv
  have one : ((1 : Nat) : Int) ≤ 1000000 := by decide
  refine And.intro ⟨(by decide : (0 : Int) ≤ 1000000), (by decide : Input.In awI1)⟩ ?_
  refine And.intro ⟨(by decide : (0 : Int) ≤ 1000000), (by decide : Input.In awI2)⟩ ?_
  refine And.intro ⟨(by decide : (0 : Int) ≤ 1000000), (by decide : Input.In awI3)⟩ ?_
  refine And.intro (fun _ => ?_) (fun hb => (nope (ne_no a1) hb).elim)
  refine And.intro (fun _ => ?_) (fun hb => (nope (ne_no b1) hb).elim)
  refine And.intro (fun _ => ?_) (fun hb => (nope (ne_no c1) hb).elim)
  refine And.intro (fun _ => ?_) (fun hb => (nope a2 hb).elim)
  refine And.intro (fun _ => ?_) (fun hb => (nope b2 hb).elim)
  refine And.intro (fun _ => ?_) (fun hb => (nope (by rw [c2]; rfl : (!awR3.ok) = false) hb).elim)
  refine And.intro ⟨fun _ _ => trivial, fun i hi => by obtain rfl : i = 0 := Nat.lt_one_iff.1 hi
                                                       trivial, by show ((awR1.l.n : Nat) : Int) ≤ 1000000; rw [a3]; exact one, one⟩ ?_
  refine And.intro (fun _ => ?_) (fun hb => (nope (flag_no a3 a4 rfl rfl) hb).elim)
  refine And.intro ⟨fun _ _ => trivial, fun i hi => by obtain rfl : i = 0 := Nat.lt_one_iff.1 hi
                                                       trivial, by show ((awR2.l.n : Nat) : Int) ≤ 1000000; rw [b3]; exact one, one⟩ ?_
  refine And.intro (fun _ => ?_) (fun hb => (nope (flag_no b3 b4 rfl rfl) hb).elim)
  refine And.intro ⟨fun _ _ => trivial, fun i hi => by obtain rfl : i = 0 := Nat.lt_one_iff.1 hi
                                                       trivial, by show ((awR3.l.n : Nat) : Int) ≤ 1000000; rw [c3]; exact one, one⟩ ?_
  refine And.intro (fun _ => ?_) (fun hb => (nope (flag_no c3 c4 rfl rfl) hb).elim)
  refine And.intro (fun _ => ?_) (fun hb => (nope (ne_no b5) hb).elim)
  refine And.intro (fun _ => ?_) (fun hb => (nope (ne_no c5) hb).elim)
  refine And.intro (fun hb => ?_) (fun _ => ?_)
  · exact (nope (by rw [c6, c7]; rfl : (!(decide (awR3.i.moveX = 64) && decide (awR3.i.moveY = -32))) = false) hb).elim
  refine Exists.intro awInvC ?_
  refine And.intro ?_ ?_
  · refine ⟨((0 : Nat), awR3.w), [(0, 5)], [], trivial, ⟨hI, Nat.zero_le _⟩, ?_⟩
    repeat' (first | (refine And.intro ?_ ?_) | exact rfl | (intro _))
  refine fun (x : Nat × Watch) (hx : AInv x.1 x.2 ∧ x.1 ≤ 40) => ?_
  obtain ⟨k, w⟩ := x
  obtain ⟨hk, hk1⟩ : AInv k w ∧ k ≤ 40 := hx
  have hn := hk.n
  have hwn : (w.times.n : Int) ≤ 1000000 := by omega
  refine And.intro (fun hb => ?_) (fun hb => ?_)
  · have hb : (k : Int) < 40 := of_decide_eq_true hb
    refine And.intro ⟨by omega, by omega⟩ ?_
    refine And.intro ⟨fun _ _ => trivial, hwn, (by decide : Input.In ⟨0, 0, 0, 0, 0, false, 0, 0, 0, 0⟩)⟩ ?_
    obtain ⟨he, hc, hI2⟩ := aw_step hk (by omega)
    refine And.intro (fun _ => ?_) (fun hb => (nope (ne_no he) hb).elim)
    have done : k + 1 ≤ 40 := by omega
    rcases hc with ⟨h1, h2, h3⟩ | ⟨h1, h2, h3⟩
    · refine And.intro (fun _ => ?_) (fun hb => (nope (by rw [h1, decide_eq_true (by omega : (k : Int) < 39)]; rfl : ((check w 100 (awIn k)).ok != decide ((k : Int) < 39)) = false) hb).elim)
      refine And.intro (fun _ => ?_) (fun hb => ?_)
      rotate_left
      · have hb : (check w 100 (awIn k)).ok = !true := hb
        rw [h1] at hb
        cases hb
      refine And.intro (fun _ => ?_) (fun hb => (nope (ne_no (by rw [h3]; rfl : (((check w 100 (awIn k)).l.n : Nat) : Int) = 0)) hb).elim)
      refine And.intro (fun hb => ?_) (fun _ => ?_)
      · have hb : (!(check w 100 (awIn k)).ok) = true := hb
        rw [h1] at hb
        cases hb
      refine And.intro ⟨by omega, by omega⟩ ?_
      refine ⟨(k + 1, (check w 100 (awIn k)).w), [], [], (by show 40 - (k + 1) < 40 - k; omega), ⟨hI2, done⟩, ?_⟩
      repeat' (first | (refine And.intro ?_ ?_) | exact rfl | (intro _))
    · refine And.intro (fun _ => ?_) (fun hb => (nope (by rw [h1, decide_eq_false (by omega : ¬ (k : Int) < 39)]; rfl : ((check w 100 (awIn k)).ok != decide ((k : Int) < 39)) = false) hb).elim)
      refine And.intro (fun hb => ?_) (fun _ => ?_)
      · have hb : (check w 100 (awIn k)).ok = true := hb
        rw [h1] at hb
        cases hb
      refine And.intro (fun _ => ?_) (fun hb => ?_)
      rotate_left
      · have hb : (!(check w 100 (awIn k)).ok) = !true := hb
        rw [h1] at hb
        cases hb
      refine And.intro ⟨fun _ _ => trivial, fun i hi => by obtain rfl : i = 0 := Nat.lt_one_iff.1 hi
                                                           trivial, by show (((check w 100 (awIn k)).l.n : Nat) : Int) ≤ 1000000; rw [h3]; exact one, one⟩ ?_
      refine And.intro (fun hb => ?_) (fun _ => ?_)
      · have hb : (!((check w 100 (awIn k)).l.same ⟨1, _⟩)) = true := hb
        rw [flag_no (x := 3) (by rw [h3]) (by rw [h3]) rfl rfl] at hb
        cases hb
      refine And.intro ⟨by omega, by omega⟩ ?_
      refine ⟨(k + 1, (check w 100 (awIn k)).w), [], [], (by show 40 - (k + 1) < 40 - k; omega), ⟨hI2, done⟩, ?_⟩
      repeat' (first | (refine And.intro ?_ ?_) | exact rfl | (intro _))
  · have hb : ¬ (k : Int) < 40 := of_decide_eq_false hb
    obtain rfl : k = 40 := by omega
    obtain ⟨e1, e2⟩ := aw_last hk
    refine And.intro ⟨fun _ _ => trivial, hwn, (by decide : Input.In awLast)⟩ ?_
    refine Eq.trans ?_ rfl
    show true = (decide ((check w 132 awLast).e = 0) && (check w 132 awLast).ok)
    rw [e1, e2]
    rfl
noncomputable def conAwake : Con cx := walkCon 11 Tryd.call11 rds0 (fun _ => []) (fun _ => .bl true) (fun _ => ⟨[1005, 1011], [], [8], 0⟩) [1005, 1011] (fun _ => rfl) follows Tryd.func11 (by kernel_rfl) awake_walk
end Go.Proofs.YtinefblphbicaaaDoor
