/- DefenceWrong. -/
import Derived.Test.YtinefblphbicaaaDoorH24
namespace Go.Proofs.YtinefblphbicaaaDoor
open Go.RowKit

def gTimes : Fam := ⟨3, fun i => if i = 2 then 9 else 5⟩
def goodW : Watch := ⟨2, 0, gTimes, 0, 0, 0, 0, 0, 0, 0, 0, 3⟩
theorem good_ok : goodW.Ok := Watch.Ok.of (by decide +kernel)
def wrSl (n : Int) : List (Nat × Slot) := [sl 1 (.v (.int .i64 n)), sl 5 (.p 0 0), sl 6 (.p 1 0)]
def wrC (n : Int) : Cut := ⟨Watch, fun b => b.ok = false ∧ b.times.n ≤ 1000, fun b => ⟨wrSl n, [(0, .lay goodW.cells 27), (1, .lay b.cells 27)], 2, 0, [], []⟩, fun _ => 0⟩
def goodC : List SV := [.il .i64 2, .il .i64 0, .rs 1 3 (fun i => [.v (.int .i64 (gTimes.g i))]), .il .i64 0, .il .i64 0, .il .i64 0, .il .i64 0, .il .i64 0, .il .i64 0, .il .i64 0, .il .i64 0, .il .i64 3]
/-- The number is at hand that chooses the count. -/
def wrC5 (n : Int) : Cut := ⟨Nat, fun j => j < 32, fun j => ⟨sl 0 (.il .u8 (5 + 8 * j : Nat)) :: wrSl n, [(0, .lay goodC 27), (1, .lay goodC 27)], 2, 0, [], []⟩, fun _ => 0⟩
theorem ok_no {w : Watch} (h : w.Ok → False) : w.ok = false := by
  cases e : w.ok with
  | false => rfl
  | true => exact (h (Watch.Ok.of e)).elim
theorem three {P : Nat → Prop} (h0 : P 0) (h1 : P 1) (h2 : P 2) : ∀ i, i < 3 → P i
  | 0, _ => h0
  | 1, _ => h1
  | 2, _ => h2
  | i + 3, h => by omega
theorem two {P : Nat → Prop} (h0 : P 0) (h1 : P 1) : ∀ i, i < 2 → P i
  | 0, _ => h0
  | 1, _ => h1
  | i + 2, h => by omega
theorem one {P : Nat → Prop} (h0 : P 0) : ∀ i, i < 1 → P i
  | 0, _ => h0
  | i + 1, h => by omega
theorem wr_check {b : Watch} (hb : b.ok = false) (now : Int) (i : Input) : check b now i = ⟨watch0, input0, ⟨0, fun _ => 0⟩, false, 2⟩ := by
  unfold check
  rw [if_pos (by unfold chkBad; rw [hb]; rfl)]
theorem wr_mark {b : Watch} (hb : b.ok = false) (f : Int) : (mark b f).2 = 2 := by
  unfold mark markBad
  rw [hb]
  rfl
theorem wr_calm {b : Watch} (hb : b.ok = false) (now : Int) : (calm b now).2 = 2 := by
  unfold calm calmBad
  rw [hb]
  rfl
theorem wr_bad {w : Watch} {now : Int} {i : Input} (h : chkBad w now i = true) : (check w now i).e = 2 := by
  unfold check
  rw [if_pos h]
def wrB0 (n : Int) : Watch := ⟨min n 0, 0, gTimes, 0, 0, 0, 0, 0, 0, 0, 0, 3⟩
def wrB1 (n : Int) : Watch := ⟨max n 9, 0, gTimes, 0, 0, 0, 0, 0, 0, 0, 0, 3⟩
def wrB2 : Watch := ⟨2, 0, ⟨2, fun i => if i = 0 then 9 else 8⟩, 0, 0, 0, 0, 0, 0, 0, 0, 3⟩
def wrB3 (n : Int) : Watch := ⟨2, 0, ⟨1, fun _ => min n (-1)⟩, 0, 0, 0, 0, 0, 0, 0, 0, 3⟩
def wrB4 : Watch := ⟨2, 0, ⟨41, fun _ => 0⟩, 0, 0, 0, 0, 0, 0, 0, 0, 3⟩
def wrB6 (n : Int) : Watch := ⟨2, 0, gTimes, 0, 0, 0, 0, 0, 0, 0, max n 1048577, 3⟩
def wrB7 (n : Int) : Watch := ⟨2, 0, gTimes, 0, 0, 0, 0, 0, 0, 0, 0, min n (-1)⟩
def wrB50 (n : Int) : Watch := ⟨2, 0, gTimes, min n (-1), 0, 0, 0, 0, 0, 0, 0, 3⟩
def wrB51 (n : Int) : Watch := ⟨2, 0, gTimes, 0, min n (-1), 0, 0, 0, 0, 0, 0, 3⟩
def wrB52 (n : Int) : Watch := ⟨2, 0, gTimes, 0, 0, min n (-1), 0, 0, 0, 0, 0, 3⟩
def wrB53 (n : Int) : Watch := ⟨2, 0, gTimes, 0, 0, 0, min n (-1), 0, 0, 0, 0, 3⟩
def wrB54 (n : Int) : Watch := ⟨2, 0, gTimes, 0, 0, 0, 0, min n (-1), 0, 0, 0, 3⟩
def wrB55 (n : Int) : Watch := ⟨2, 0, gTimes, 0, 0, 0, 0, 0, min n (-1), 0, 0, 3⟩
def wrB56 (n : Int) : Watch := ⟨2, 0, gTimes, 0, 0, 0, 0, 0, 0, min n (-1), 0, 3⟩
theorem wrB0_no (n : Int) : (wrB0 n).ok = false ∧ (wrB0 n).times.n ≤ 1000 := ⟨ok_no fun h => by unfold wrB0 at h; have := h.c0; dsimp only at this; omega, Nat.le_of_ble_eq_true rfl⟩
theorem wrB1_no (n : Int) : (wrB1 n).ok = false ∧ (wrB1 n).times.n ≤ 1000 := ⟨ok_no fun h => by unfold wrB1 at h; have := h.c1; dsimp only at this; omega, Nat.le_of_ble_eq_true rfl⟩
theorem wrB2_no : (wrB2).ok = false ∧ (wrB2).times.n ≤ 1000 := ⟨ok_no fun h => by unfold wrB2 at h; have := h.s 0 1 (by decide) (by decide); dsimp only at this; omega, Nat.le_of_ble_eq_true rfl⟩
theorem wrB3_no (n : Int) : (wrB3 n).ok = false ∧ (wrB3 n).times.n ≤ 1000 := ⟨ok_no fun h => by unfold wrB3 at h; have := tickOf (h.r 0 Nat.zero_lt_one); dsimp only at this; omega, Nat.le_of_ble_eq_true rfl⟩
theorem wrB4_no : (wrB4).ok = false ∧ (wrB4).times.n ≤ 1000 := ⟨ok_no fun h => by unfold wrB4 at h; have := h.n; dsimp only at this; omega, Nat.le_of_ble_eq_true rfl⟩
theorem wrB6_no (n : Int) : (wrB6 n).ok = false ∧ (wrB6 n).times.n ≤ 1000 := ⟨ok_no fun h => by unfold wrB6 at h; have := h.f.p1; dsimp only at this; omega, Nat.le_of_ble_eq_true rfl⟩
theorem wrB7_no (n : Int) : (wrB7 n).ok = false ∧ (wrB7 n).times.n ≤ 1000 := ⟨ok_no fun h => by unfold wrB7 at h; have := tickOf h.t; dsimp only at this; omega, Nat.le_of_ble_eq_true rfl⟩
theorem wrB50_no (n : Int) : (wrB50 n).ok = false ∧ (wrB50 n).times.n ≤ 1000 := ⟨ok_no fun h => by unfold wrB50 at h; have := h.f.c0; dsimp only at this; omega, Nat.le_of_ble_eq_true rfl⟩
theorem wrB51_no (n : Int) : (wrB51 n).ok = false ∧ (wrB51 n).times.n ≤ 1000 := ⟨ok_no fun h => by unfold wrB51 at h; have := h.f.c1; dsimp only at this; omega, Nat.le_of_ble_eq_true rfl⟩
theorem wrB52_no (n : Int) : (wrB52 n).ok = false ∧ (wrB52 n).times.n ≤ 1000 := ⟨ok_no fun h => by unfold wrB52 at h; have := h.f.c2; dsimp only at this; omega, Nat.le_of_ble_eq_true rfl⟩
theorem wrB53_no (n : Int) : (wrB53 n).ok = false ∧ (wrB53 n).times.n ≤ 1000 := ⟨ok_no fun h => by unfold wrB53 at h; have := h.f.c3; dsimp only at this; omega, Nat.le_of_ble_eq_true rfl⟩
theorem wrB54_no (n : Int) : (wrB54 n).ok = false ∧ (wrB54 n).times.n ≤ 1000 := ⟨ok_no fun h => by unfold wrB54 at h; have := h.f.c4; dsimp only at this; omega, Nat.le_of_ble_eq_true rfl⟩
theorem wrB55_no (n : Int) : (wrB55 n).ok = false ∧ (wrB55 n).times.n ≤ 1000 := ⟨ok_no fun h => by unfold wrB55 at h; have := h.f.c5; dsimp only at this; omega, Nat.le_of_ble_eq_true rfl⟩
theorem wrB56_no (n : Int) : (wrB56 n).ok = false ∧ (wrB56 n).times.n ≤ 1000 := ⟨ok_no fun h => by unfold wrB56 at h; have := h.f.c6; dsimp only at this; omega, Nat.le_of_ble_eq_true rfl⟩
set_option maxHeartbeats 8000000 in
set_option maxRecDepth 8000 in
theorem wrong_walk (way n : Int) (hw : 0 ≤ way ∧ way ≤ 255) (hn : InR n) :
    evFn (C := cx) [conCheck, conMark, conCalm, conValid, conSuspect, conAwake] [] 0 ⟨[], [15, 20], [], 10⟩ Tryd.f7 [.v (.int .u8 way), .v (.int .i64 n)] fun v H _ => resOut (.bl true) H v := by
  have hq : way.tmod 8 = way % 8 := Int.tmod_eq_emod_of_nonneg hw.1
  refine Exists.intro (wrC n) ?_
  refine And.intro ?_ ?_
  · refine And.intro (fun hb0 => ?_) (fun hb0 => ?_)
    · refine ⟨wrB0 n, [(0, 1), (1, 2)], [.freeze 0], trivial, wrB0_no n, ?_⟩
      repeat' (first | (refine And.intro ?_ ?_) | exact rfl | exact three rfl rfl rfl | exact two rfl rfl | exact one rfl | (intro _))
    · replace hb0 : ¬ way.tmod 8 = 0 := of_decide_eq_false hb0
      refine And.intro (fun hb1 => ?_) (fun hb1 => ?_)
      · refine ⟨wrB1 n, [(0, 1), (1, 2)], [.freeze 0], trivial, wrB1_no n, ?_⟩
        repeat' (first | (refine And.intro ?_ ?_) | exact rfl | exact three rfl rfl rfl | exact two rfl rfl | exact one rfl | (intro _))
      · replace hb1 : ¬ way.tmod 8 = 1 := of_decide_eq_false hb1
        refine And.intro (fun hb2 => ?_) (fun hb2 => ?_)
        · refine ⟨wrB2, [(0, 1), (1, 2)], [.freeze 0, .freeze 3], trivial, wrB2_no, ?_⟩
          repeat' (first | (refine And.intro ?_ ?_) | exact rfl | exact three rfl rfl rfl | exact two rfl rfl | exact one rfl | (intro _))
        · replace hb2 : ¬ way.tmod 8 = 2 := of_decide_eq_false hb2
          refine And.intro (fun hb3 => ?_) (fun hb3 => ?_)
          · refine ⟨wrB3 n, [(0, 1), (1, 2)], [.freeze 0, .freeze 3], trivial, wrB3_no n, ?_⟩
            repeat' (first | (refine And.intro ?_ ?_) | exact rfl | exact three rfl rfl rfl | exact two rfl rfl | exact one rfl | (intro _))
          · replace hb3 : ¬ way.tmod 8 = 3 := of_decide_eq_false hb3
            refine And.intro (fun hb4 => ?_) (fun hb4 => ?_)
            · refine And.intro ⟨by decide, by decide, by decide, by decide⟩ ?_
              refine ⟨wrB4, [(0, 1), (1, 2)], [.freeze 0, .freeze 3], trivial, wrB4_no, ?_⟩
              repeat' (first | (refine And.intro ?_ ?_) | exact rfl | exact three rfl rfl rfl | exact two rfl rfl | exact one rfl | (intro _))
            · replace hb4 : ¬ way.tmod 8 = 4 := of_decide_eq_false hb4
              refine And.intro (fun hb5 => ?_) (fun hb5 => ?_)
              · replace hb5 : way.tmod 8 = 5 := of_decide_eq_true hb5
                refine Exists.intro (wrC5 n) ?_
                refine And.intro ?_ ?_
                · refine ⟨(way / 8).toNat, [(0, 1), (1, 2)], [.freeze 0], trivial, by show (way / 8).toNat < 32; omega, ?_⟩
                  repeat' (first | (refine And.intro ?_ ?_) | exact rfl | exact three rfl rfl rfl | exact two rfl rfl | exact one rfl | (intro _))
                  show ((5 + 8 * (way / 8).toNat : Nat) : Int) = way
                  omega
                refine fun (j : Nat) (hj : j < 32) => ?_
                have hj2 : j = 0 ∨ j = 1 ∨ j = 2 ∨ j = 3 ∨ j = 4 ∨ j = 5 ∨ j = 6 ∨ j = 7 ∨ j = 8 ∨ j = 9 ∨ j = 10 ∨ j = 11 ∨ j = 12 ∨ j = 13 ∨ j = 14 ∨ j = 15 ∨ j = 16 ∨ j = 17 ∨ j = 18 ∨ j = 19 ∨ j = 20 ∨ j = 21 ∨ j = 22 ∨ j = 23 ∨ j = 24 ∨ j = 25 ∨ j = 26 ∨ j = 27 ∨ j = 28 ∨ j = 29 ∨ j = 30 ∨ j = 31 := by omega
                clear hj
                obtain rfl | rfl | rfl | rfl | rfl | rfl | rfl | rfl | rfl | rfl | rfl | rfl | rfl | rfl | rfl | rfl | rfl | rfl | rfl | rfl | rfl | rfl | rfl | rfl | rfl | rfl | rfl | rfl | rfl | rfl | rfl | rfl := hj2
                · refine ⟨wrB50 n, [], [], trivial, wrB50_no n, ?_⟩
                  repeat' (first | (refine And.intro ?_ ?_) | exact rfl | exact three rfl rfl rfl | exact two rfl rfl | exact one rfl | (intro _))
                · refine ⟨wrB51 n, [], [], trivial, wrB51_no n, ?_⟩
                  repeat' (first | (refine And.intro ?_ ?_) | exact rfl | exact three rfl rfl rfl | exact two rfl rfl | exact one rfl | (intro _))
                · refine ⟨wrB52 n, [], [], trivial, wrB52_no n, ?_⟩
                  repeat' (first | (refine And.intro ?_ ?_) | exact rfl | exact three rfl rfl rfl | exact two rfl rfl | exact one rfl | (intro _))
                · refine ⟨wrB53 n, [], [], trivial, wrB53_no n, ?_⟩
                  repeat' (first | (refine And.intro ?_ ?_) | exact rfl | exact three rfl rfl rfl | exact two rfl rfl | exact one rfl | (intro _))
                · refine ⟨wrB54 n, [], [], trivial, wrB54_no n, ?_⟩
                  repeat' (first | (refine And.intro ?_ ?_) | exact rfl | exact three rfl rfl rfl | exact two rfl rfl | exact one rfl | (intro _))
                · refine ⟨wrB55 n, [], [], trivial, wrB55_no n, ?_⟩
                  repeat' (first | (refine And.intro ?_ ?_) | exact rfl | exact three rfl rfl rfl | exact two rfl rfl | exact one rfl | (intro _))
                · refine ⟨wrB56 n, [], [], trivial, wrB56_no n, ?_⟩
                  repeat' (first | (refine And.intro ?_ ?_) | exact rfl | exact three rfl rfl rfl | exact two rfl rfl | exact one rfl | (intro _))
                · refine ⟨wrB50 n, [], [], trivial, wrB50_no n, ?_⟩
                  repeat' (first | (refine And.intro ?_ ?_) | exact rfl | exact three rfl rfl rfl | exact two rfl rfl | exact one rfl | (intro _))
                · refine ⟨wrB51 n, [], [], trivial, wrB51_no n, ?_⟩
                  repeat' (first | (refine And.intro ?_ ?_) | exact rfl | exact three rfl rfl rfl | exact two rfl rfl | exact one rfl | (intro _))
                · refine ⟨wrB52 n, [], [], trivial, wrB52_no n, ?_⟩
                  repeat' (first | (refine And.intro ?_ ?_) | exact rfl | exact three rfl rfl rfl | exact two rfl rfl | exact one rfl | (intro _))
                · refine ⟨wrB53 n, [], [], trivial, wrB53_no n, ?_⟩
                  repeat' (first | (refine And.intro ?_ ?_) | exact rfl | exact three rfl rfl rfl | exact two rfl rfl | exact one rfl | (intro _))
                · refine ⟨wrB54 n, [], [], trivial, wrB54_no n, ?_⟩
                  repeat' (first | (refine And.intro ?_ ?_) | exact rfl | exact three rfl rfl rfl | exact two rfl rfl | exact one rfl | (intro _))
                · refine ⟨wrB55 n, [], [], trivial, wrB55_no n, ?_⟩
                  repeat' (first | (refine And.intro ?_ ?_) | exact rfl | exact three rfl rfl rfl | exact two rfl rfl | exact one rfl | (intro _))
                · refine ⟨wrB56 n, [], [], trivial, wrB56_no n, ?_⟩
                  repeat' (first | (refine And.intro ?_ ?_) | exact rfl | exact three rfl rfl rfl | exact two rfl rfl | exact one rfl | (intro _))
                · refine ⟨wrB50 n, [], [], trivial, wrB50_no n, ?_⟩
                  repeat' (first | (refine And.intro ?_ ?_) | exact rfl | exact three rfl rfl rfl | exact two rfl rfl | exact one rfl | (intro _))
                · refine ⟨wrB51 n, [], [], trivial, wrB51_no n, ?_⟩
                  repeat' (first | (refine And.intro ?_ ?_) | exact rfl | exact three rfl rfl rfl | exact two rfl rfl | exact one rfl | (intro _))
                · refine ⟨wrB52 n, [], [], trivial, wrB52_no n, ?_⟩
                  repeat' (first | (refine And.intro ?_ ?_) | exact rfl | exact three rfl rfl rfl | exact two rfl rfl | exact one rfl | (intro _))
                · refine ⟨wrB53 n, [], [], trivial, wrB53_no n, ?_⟩
                  repeat' (first | (refine And.intro ?_ ?_) | exact rfl | exact three rfl rfl rfl | exact two rfl rfl | exact one rfl | (intro _))
                · refine ⟨wrB54 n, [], [], trivial, wrB54_no n, ?_⟩
                  repeat' (first | (refine And.intro ?_ ?_) | exact rfl | exact three rfl rfl rfl | exact two rfl rfl | exact one rfl | (intro _))
                · refine ⟨wrB55 n, [], [], trivial, wrB55_no n, ?_⟩
                  repeat' (first | (refine And.intro ?_ ?_) | exact rfl | exact three rfl rfl rfl | exact two rfl rfl | exact one rfl | (intro _))
                · refine ⟨wrB56 n, [], [], trivial, wrB56_no n, ?_⟩
                  repeat' (first | (refine And.intro ?_ ?_) | exact rfl | exact three rfl rfl rfl | exact two rfl rfl | exact one rfl | (intro _))
                · refine ⟨wrB50 n, [], [], trivial, wrB50_no n, ?_⟩
                  repeat' (first | (refine And.intro ?_ ?_) | exact rfl | exact three rfl rfl rfl | exact two rfl rfl | exact one rfl | (intro _))
                · refine ⟨wrB51 n, [], [], trivial, wrB51_no n, ?_⟩
                  repeat' (first | (refine And.intro ?_ ?_) | exact rfl | exact three rfl rfl rfl | exact two rfl rfl | exact one rfl | (intro _))
                · refine ⟨wrB52 n, [], [], trivial, wrB52_no n, ?_⟩
                  repeat' (first | (refine And.intro ?_ ?_) | exact rfl | exact three rfl rfl rfl | exact two rfl rfl | exact one rfl | (intro _))
                · refine ⟨wrB53 n, [], [], trivial, wrB53_no n, ?_⟩
                  repeat' (first | (refine And.intro ?_ ?_) | exact rfl | exact three rfl rfl rfl | exact two rfl rfl | exact one rfl | (intro _))
                · refine ⟨wrB54 n, [], [], trivial, wrB54_no n, ?_⟩
                  repeat' (first | (refine And.intro ?_ ?_) | exact rfl | exact three rfl rfl rfl | exact two rfl rfl | exact one rfl | (intro _))
                · refine ⟨wrB55 n, [], [], trivial, wrB55_no n, ?_⟩
                  repeat' (first | (refine And.intro ?_ ?_) | exact rfl | exact three rfl rfl rfl | exact two rfl rfl | exact one rfl | (intro _))
                · refine ⟨wrB56 n, [], [], trivial, wrB56_no n, ?_⟩
                  repeat' (first | (refine And.intro ?_ ?_) | exact rfl | exact three rfl rfl rfl | exact two rfl rfl | exact one rfl | (intro _))
                · refine ⟨wrB50 n, [], [], trivial, wrB50_no n, ?_⟩
                  repeat' (first | (refine And.intro ?_ ?_) | exact rfl | exact three rfl rfl rfl | exact two rfl rfl | exact one rfl | (intro _))
                · refine ⟨wrB51 n, [], [], trivial, wrB51_no n, ?_⟩
                  repeat' (first | (refine And.intro ?_ ?_) | exact rfl | exact three rfl rfl rfl | exact two rfl rfl | exact one rfl | (intro _))
                · refine ⟨wrB52 n, [], [], trivial, wrB52_no n, ?_⟩
                  repeat' (first | (refine And.intro ?_ ?_) | exact rfl | exact three rfl rfl rfl | exact two rfl rfl | exact one rfl | (intro _))
                · refine ⟨wrB53 n, [], [], trivial, wrB53_no n, ?_⟩
                  repeat' (first | (refine And.intro ?_ ?_) | exact rfl | exact three rfl rfl rfl | exact two rfl rfl | exact one rfl | (intro _))
              · replace hb5 : ¬ way.tmod 8 = 5 := of_decide_eq_false hb5
                refine And.intro (fun hb6 => ?_) (fun hb6 => ?_)
                · refine ⟨wrB6 n, [(0, 1), (1, 2)], [.freeze 0], trivial, wrB6_no n, ?_⟩
                  repeat' (first | (refine And.intro ?_ ?_) | exact rfl | exact three rfl rfl rfl | exact two rfl rfl | exact one rfl | (intro _))
                · replace hb6 : ¬ way.tmod 8 = 6 := of_decide_eq_false hb6
                  refine And.intro (fun hb7 => ?_) (fun hb7 => ?_)
                  · refine ⟨wrB7 n, [(0, 1), (1, 2)], [.freeze 0], trivial, wrB7_no n, ?_⟩
                    repeat' (first | (refine And.intro ?_ ?_) | exact rfl | exact three rfl rfl rfl | exact two rfl rfl | exact one rfl | (intro _))
                  · replace hb7 : ¬ way.tmod 8 = 7 := of_decide_eq_false hb7
                    exfalso
                    simp only [hq] at *
                    omega
  refine fun (b : Watch) (hb : b.ok = false ∧ b.times.n ≤ 1000) => ?_
  obtain ⟨hb0, hb1⟩ := hb
  have e1 := wr_check hb0 10 ⟨b.client, 1, 10, 0, 0, false, 0, 0, 0, 0⟩
  have e2 := wr_mark hb0 3
  have e3 := wr_calm hb0 10
  have e4 : (check goodW 10 ⟨3, 1, 10, 0, 0, false, 0, 0, 0, 0⟩).e = 2 := wr_bad (by decide +kernel)
  have e5 : (check goodW (min n 8) ⟨2, 1, 10, 0, 0, false, 0, 0, 0, 0⟩).e = 2 := wr_bad (by
    have : goodW.late (min n 8) = true := by
      unfold Watch.late
      show (decide ((0 : Int) < (3 : Nat)) && decide (min n 8 < 9)) = true
      rw [decide_eq_true (by omega : min n 8 < 9)]
      rfl
    unfold chkBad
    rw [this, Bool.or_true])
  have e6 : (check goodW (max n 1073741825) ⟨2, 1, 10, 0, 0, false, 0, 0, 0, 0⟩).e = 2 := wr_bad (by
    have : isTick (max n 1073741825) = false := by
      unfold isTick
      rw [decide_eq_false (by omega : ¬ max n 1073741825 ≤ 1073741824), Bool.and_false]
    unfold chkBad
    rw [this, Bool.not_false, Bool.or_true, Bool.true_or])
  have e7 : (calm goodW (min n 2)).2 = 2 := by
    have : calmBad goodW (min n 2) = true := by
      unfold calmBad
      rw [decide_eq_true (by show min n 2 < 3; omega : min n 2 < goodW.since), Bool.or_true, Bool.true_or]
    unfold calm
    rw [this]
  have e8 : (mark goodW 0).2 = 2 := by decide +kernel
  have e9 : (mark goodW 8).2 = 2 := by decide +kernel
  have hin : ∀ c s t : Int, Input.In ⟨c, s, t, 0, 0, false, 0, 0, 0, 0⟩ := fun _ _ _ => (by decide : Input.In ⟨0, 0, 0, 0, 0, false, 0, 0, 0, 0⟩)
  have hbn : (b.times.n : Int) ≤ 1000000 := by omega
  have hgn : (goodW.times.n : Int) ≤ 1000000 := by decide
  refine And.intro ⟨fun _ _ => trivial, hbn, hin _ _ _⟩ ?_
  refine And.intro ⟨fun _ _ => trivial, hbn⟩ ?_
  refine And.intro ⟨fun _ _ => trivial, hbn⟩ ?_
  refine And.intro ⟨fun _ _ => trivial, hgn, hin _ _ _⟩ ?_
  refine And.intro ⟨fun _ _ => trivial, hgn, hin _ _ _⟩ ?_
  refine And.intro ⟨fun _ _ => trivial, hgn, hin _ _ _⟩ ?_
  refine And.intro ⟨fun _ _ => trivial, hgn⟩ ?_
  refine And.intro ⟨fun _ _ => trivial, hgn⟩ ?_
  refine And.intro ⟨fun _ _ => trivial, hgn⟩ ?_
  refine And.intro (fun hb => (nopeT (ne_no (by rw [e1] : (check b 10 ⟨b.client, 1, 10, 0, 0, false, 0, 0, 0, 0⟩).e = 2)) hb).elim) (fun _ => ?_)
  refine And.intro (fun hb => (nopeT (ne_no e2) hb).elim) (fun _ => ?_)
  refine And.intro (fun hb => (nopeT (ne_no e3) hb).elim) (fun _ => ?_)
  refine And.intro (fun hb => (nopeT (ne_no e4) hb).elim) (fun _ => ?_)
  refine And.intro (fun hb => (nopeT (ne_no e5) hb).elim) (fun _ => ?_)
  refine And.intro (fun hb => (nopeT (ne_no e6) hb).elim) (fun _ => ?_)
  refine And.intro (fun hb => (nopeT (ne_no e7) hb).elim) (fun _ => ?_)
  refine And.intro (fun hb => (nopeT (ne_no e8) hb).elim) (fun _ => ?_)
  refine And.intro (fun hb => (nopeT (ne_no e9) hb).elim) (fun _ => ?_)
  refine And.intro ⟨fun _ _ => trivial, hbn⟩ ?_
  refine And.intro (fun _ => ⟨fun _ _ => trivial, hgn⟩) ?_
  refine And.intro (fun _ => ⟨fun _ _ => trivial, hbn⟩) ?_
  refine Eq.trans ?_ rfl
  have q : ∀ {a b c d e : Bool}, a = true → b = true → c = true → d = true → e = true → true = (a && b && c && d && e || false) := by
    intro a b c d e h1 h2 h3 h4 h5
    rw [h1, h2, h3, h4, h5]
    rfl
  refine q ?_ ?_ ?_ ?_ ?_
  · show (!b.ok) = true
    rw [hb0]; rfl
  · exact good_ok.to
  · show (!b.suspect) = true
    unfold Watch.suspect
    rw [hb0]; rfl
  · exact decide_eq_true (by show (((check b 10 ⟨b.client, 1, 10, 0, 0, false, 0, 0, 0, 0⟩).l.n : Nat) : Int) = 0; rw [e1]; rfl)
  · show (!(check b 10 ⟨b.client, 1, 10, 0, 0, false, 0, 0, 0, 0⟩).ok) = true
    rw [e1]; rfl
end Go.Proofs.YtinefblphbicaaaDoor
