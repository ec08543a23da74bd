/- DefenceBounds, the walk. -/
import Derived.Test.YtinefblphbicaaaDoorH17
namespace Go.Proofs.YtinefblphbicaaaDoor
open Go.RowKit

structure BSt where
  k : Nat
  w : Watch
  now : Int
  T : Fam
  S : Fam
def cellsU (g : Nat → Int) : Nat → List SV := fun j => [.v (.int .u8 (g j))]
def bndH (x : BSt) : Heap := [(0, .lay x.w.cells 27), (1, .lst 2 1 x.T.n (famC x.T.g) 3), (3, .lst 4 1 x.S.n (famC x.S.g) 3)]
def bndSl (G : Fam) (F : Nat → Input) (m : Nat) (x : BSt) : List (Nat × Slot) := [sl 0 (.rs 1 G.n (cellsU G.g)), sl 5 (.p 0 0), sl 6 (.v (.int .i64 x.now)), sl 7 (.g 1 2 1 0 x.T.n), sl 8 (.g 3 4 1 0 x.S.n), sl 22 (.rs 10 m fun i => (F i).cells), sl 23 (.v (.int .i64 m)), sl 24 (.v (.int .i64 x.k))]
def BP (m : Nat) (x : BSt) : Prop := BInv x.w x.now x.T x.S ∧ x.k ≤ m ∧ x.now ≤ 255 * x.k ∧ x.T.n ≤ x.k
def bndC (G : Fam) (F : Nat → Input) (m : Nat) : Cut := ⟨BSt, BP m, fun x => ⟨bndSl G F m x, bndH x, 5, 0, [], []⟩, fun x => m - x.k⟩
/-- Behind the new time. -/
def bndC2 (G : Fam) (F : Nat → Input) (m : Nat) (x : BSt) : Cut := ⟨Int, fun now => x.now ≤ now ∧ now ≤ x.now + 255, fun now => ⟨sl 10 (.p 5 0) :: bndSl G F m { x with now := now }, (5, .lay (F x.k).cells 31) :: bndH x, 6, 0, [], []⟩, fun _ => 0⟩
def bw0 : Watch := ⟨2, 0, ⟨0, fun _ => 0⟩, 0, 0, 0, 0, 0, 0, 0, 0, 0⟩
theorem bw0_inv : BInv bw0 0 fl0 fl0 := by
  refine ⟨Watch.Ok.of (by decide +kernel), rfl, Int.le_refl _, fun i hi => absurd hi (Nat.not_lt_zero _), Nat.le_refl _, fun i hi => absurd hi (Nat.not_lt_zero _), fun i hi => absurd hi (Nat.not_lt_zero _), rfl, fun h => absurd h (Nat.lt_irrefl _)⟩
theorem nopeT {b : Bool} (h : b = false) (k : b = true) : False := by rw [h] at k; cases k
theorem or2f {a b : Bool} (h : a = false) (k : b = false) : (a || b) = false := by rw [h, k]; rfl
def Input.eqB (i j : Input) : Bool := decide (i.client = j.client) && (decide (i.seq = j.seq) && (decide (i.tick = j.tick) && ((decide (i.moveX = j.moveX) && decide (i.moveY = j.moveY)) && ((i.fire == j.fire) && ((decide (i.aimX = j.aimX) && decide (i.aimY = j.aimY)) && (decide (i.seen = j.seen) && decide (i.part = j.part)))))))
theorem neB {i j : Input} (h : i = j) : (!(i.eqB j)) = false := by subst h; simp [Input.eqB]
def as2 (i : Input) : Input := ⟨2, i.seq, i.tick, i.moveX, i.moveY, i.fire, i.aimX, i.aimY, i.seen, i.part⟩
theorem and1f {a b : Bool} (h : a = false) : (a && b) = false := by rw [h]; rfl
theorem vbeyond_no {v : Vec} {m : Int} (h : (-m ≤ v.x ∧ v.x ≤ m) ∧ -m ≤ v.y ∧ v.y ≤ m) : vbeyond v m = false := by
  unfold vbeyond; simp only [Bool.or_eq_false_iff, decide_eq_false_iff_not]; omega
theorem bnd_3 {i : Int} {S : Fam} (h3 : 0 < S.n → S.g (S.n - 1) < i) : (decide (0 < (S.n : Int)) && decide (i ≤ S.g (0 + ((S.n : Int) - 1).toNat))) = false := by
  rw [Nat.zero_add]
  by_cases e : 0 < S.n
  · have := h3 e
    rw [show ((S.n : Int) - 1).toNat = S.n - 1 by omega, decide_eq_false (by omega : ¬ i ≤ S.g (S.n - 1)), Bool.and_false]
  · rw [decide_eq_false (by omega : ¬ 0 < (S.n : Int))]; rfl
theorem bnd_4 {r : Input} {now : Int} (h7 : r.fire = true → (now - 16 ≤ r.seen ∧ r.seen ≤ now) ∧ 0 ≤ r.part ∧ r.part ≤ 15) : (r.fire && (decide (r.seen < now - 16) || decide (now < r.seen) || decide (r.part < 0) || decide (15 < r.part))) = false := by
  cases hf : r.fire with
  | false => rfl
  | true =>
    have := h7 hf
    simp only [Bool.or_eq_false_iff, decide_eq_false_iff_not, Bool.true_and]; omega
theorem bnd_5 {T : Fam} {now : Int} (h8 : 40 ≤ T.n → (T.push now).g (T.n - 40) ≤ now - 32) : (decide (0 ≤ ((T.n + 1 : Nat) : Int) - 40 - 1) && decide (now - 32 < bif Nat.ble T.n (0 + (((T.n + 1 : Nat) : Int) - 40 - 1).toNat) then now else T.g (0 + (((T.n + 1 : Nat) : Int) - 40 - 1).toNat))) = false := by
  by_cases e : 40 ≤ T.n
  · have h := h8 e
    rw [Nat.zero_add, show (((T.n + 1 : Nat) : Int) - 40 - 1).toNat = T.n - 40 by omega, ← pushEq (f := T) (x := now) (by omega), decide_eq_false (by omega : ¬ now - 32 < _), Bool.and_false]
  · rw [decide_eq_false (by omega : ¬ 0 ≤ ((T.n + 1 : Nat) : Int) - 40 - 1)]; rfl
theorem lt_no {a b : Int} (h : b ≤ a) : decide (a < b) = false := decide_eq_false (by omega)
theorem bnd_1 {r : Res} (e : r.e = 0) (hv : r.w.ok = true) : (decide (¬ r.e = 0) || !r.w.ok) = false := by rw [e, hv]; rfl
set_option maxHeartbeats 8000000 in
set_option maxRecDepth 8000 in
theorem bounds_walk (G : Fam) (n : Nat) (F : Nat → Input) (hG : (G.n : Int) ≤ 9223372036854775807) (hn : (n : Int) ≤ 9223372036854775807) (hg : ∀ i, i < G.n → 0 ≤ G.g i ∧ G.g i ≤ 255) (hF : ∀ i, i < n → (F i).In) : evFn (C := cx) [conCheck, conValid, conVbeyond, conAwake] [] 0 ⟨[19], [9], [5], 0⟩ Tryd.f3 [.rs 1 G.n (cellsU G.g), .rs 10 n fun i => (F i).cells] fun v H _ => resOut (.bl true) H v := by
  refine And.intro ⟨by omega, by omega⟩ ?_
  obtain ⟨m, hm⟩ : ∃ m, m = (min (n : Int) 200).toNat := ⟨_, rfl⟩
  refine Exists.intro (bndC G F m) ?_
  refine And.intro ?_ ?_
  · refine ⟨⟨0, bw0, 0, fl0, fl0⟩, [], [.slot2 7 1 3, .slot2 8 1 3], trivial, ⟨bw0_inv, Nat.zero_le _, Int.le_refl _, Nat.le_refl _⟩, ?_⟩
    repeat' (first | (refine And.intro ?_ ?_) | exact rfl | (intro _))
    all_goals first
      | exact hm
      | exact congrArg (fun q : Nat => (q : Int)) hm
      | exact absurd ‹_ < 0› (Nat.not_lt_zero _)
      | skip
  refine fun (x : BSt) (hx : BP m x) => ?_
  obtain ⟨k, w, now, T, S⟩ := x
  obtain ⟨hI, hk, hnow, hT⟩ : BInv w now T S ∧ k ≤ m ∧ now ≤ 255 * k ∧ T.n ≤ k := hx
  have hm2 : m ≤ n ∧ m ≤ 200 := by omega
  have hnt := hI.nt
  refine And.intro (fun hb => ?_) (fun hb => ?_)
  · have hb : (k : Int) < m := of_decide_eq_true hb
    refine And.intro ⟨by omega, by omega⟩ ?_
    refine Exists.intro (bndC2 G F m ⟨k, w, now, T, S⟩) ?_
    refine And.intro ?_ ?_
    · refine And.intro (fun hc => ?_) (fun hc => ?_)
      · have hc : (k : Int) < G.n := of_decide_eq_true hc
        have hgk := hg k (by omega)
        have hq : (G.g k).tmod 2 = G.g k % 2 := Int.tmod_eq_emod_of_nonneg hgk.1
        have hp : 0 ≤ G.g k * (G.g k % 2) ∧ G.g k * (G.g k % 2) ≤ 255 := by
          have : G.g k % 2 = 0 ∨ G.g k % 2 = 1 := by omega
          rcases this with h | h <;> rw [h] <;> omega
        have key : ∀ P : Prop, P → (0 ≤ (k : Int) ∧ (k : Int) < G.n) ∧ P := fun P h => ⟨⟨by omega, hc⟩, h⟩
        refine key _ ?_
        refine And.intro (by simp only [Int.toNat_natCast]; constructor <;> omega) ?_
        refine key _ ?_
        refine And.intro (by simp only [Int.toNat_natCast, hq]; constructor <;> omega) ?_
        refine And.intro (by simp only [Int.toNat_natCast, hq]; constructor <;> omega) ?_
        refine And.intro (by simp only [Int.toNat_natCast, hq]; constructor <;> omega) ?_
        refine ⟨now + G.g k * (G.g k % 2), [], [], trivial, ⟨(by omega : now ≤ now + G.g k * (G.g k % 2)), (by omega : now + G.g k * (G.g k % 2) ≤ now + 255)⟩, ?_⟩
        repeat' (first | (refine And.intro ?_ ?_) | exact rfl | (intro _))
        all_goals (simp only [Int.toNat_natCast, hq])
      · refine ⟨now, [], [], trivial, ⟨Int.le_refl _, by show now ≤ now + 255; exact Int.le_add_of_nonneg_right (by decide)⟩, ?_⟩
        repeat' (first | (refine And.intro ?_ ?_) | exact rfl | (intro _))
        all_goals skip
    · refine fun (now' : Int) (hnow' : now ≤ now' ∧ now' ≤ now + 255) => ?_
      obtain ⟨hn1, hn2⟩ := hnow'
      have hwn := hI.ok.n
      refine And.intro ⟨fun _ _ => trivial, by show (w.times.n : Int) ≤ 1000000; omega, hF k (by omega)⟩ ?_
      have hs := bounds_step (i := (as2 (F k))) hI hn1 (by omega) rfl (hF k (by omega))
      generalize hr : check w now' (as2 (F k)) = r at hs
      cases hs with
      | no e ok hv hs hl hx hc hsi hi =>
        subst hr
        have hvn : ((check w now' (as2 (F k))).w.times.n : Int) ≤ 1000000 := by have := (Watch.Ok.of hv).n; omega
        refine And.intro (fun _ => ⟨fun _ _ => trivial, hvn⟩) ?_
        refine And.intro (fun hb => (nopeT (bnd_1 e hv) hb).elim) (fun _ => ?_)
        refine And.intro (fun _ => ?_) (fun hb => ?_)
        rotate_left
        · have hb : (!(check w now' (as2 (F k))).ok) = false := hb
          rw [ok] at hb
          cases hb
        refine And.intro (fun hb => (nopeT (or2f (or2f (or2f (or2f (ne_no hs) (ne_no (congrArg (fun q : Nat => (q : Int)) hl))) (neB hx)) (ne_no hc)) (ne_no hsi)) hb).elim) (fun _ => ?_)
        refine And.intro ⟨by dsimp only; omega, by dsimp only; omega⟩ ?_
        refine ⟨⟨k + 1, (check w now' (as2 (F k))).w, now', T, S⟩, [], [], (by show m - (k + 1) < m - k; omega), ⟨hi, (by show k + 1 ≤ m; omega), (by show now' ≤ 255 * ((k + 1 : Nat) : Int); omega), Nat.le_succ_of_le hT⟩, ?_⟩
        repeat' (first | (refine And.intro ?_ ?_) | exact rfl | (intro _))
        all_goals skip
      | yes e ok hv h1 h2 h3 h4 h5 h6 h7 h8 hi =>
        subst hr
        have hvn : ((check w now' (as2 (F k))).w.times.n : Int) ≤ 1000000 := by have := (Watch.Ok.of hv).n; omega
        refine And.intro (fun _ => ⟨fun _ _ => trivial, hvn⟩) ?_
        refine And.intro (fun hb => (nopeT (bnd_1 e hv) hb).elim) (fun _ => ?_)
        refine And.intro (fun hb => ?_) (fun _ => ?_)
        · have hb : (!(check w now' (as2 (F k))).ok) = true := hb
          rw [ok] at hb
          cases hb
        have hSn := hI.sn
        refine And.intro ?_ ?_
        · repeat' (first | (refine And.intro ?_ ?_) | (intro _))
          all_goals (dsimp only at *; simp only [decide_eq_true_eq, decide_eq_false_iff_not] at *; omega)
        refine And.intro ?_ ?_
        · repeat' (first | (refine And.intro ?_ ?_) | (intro _))
          all_goals (dsimp only at *; simp only [decide_eq_true_eq, decide_eq_false_iff_not] at *; omega)
        refine And.intro (fun _ => ⟨(by decide : 0 ≤ (64 : Int)), (by decide : (64 : Int) ≤ 65536)⟩) ?_
        refine And.intro (fun _ => ⟨(by decide : 0 ≤ (8192 : Int)), (by decide : (8192 : Int) ≤ 65536)⟩) ?_
        refine And.intro ?_ ?_
        · repeat' (first | (refine And.intro ?_ ?_) | (intro _))
          all_goals (dsimp only at *; omega)
        refine And.intro ?_ ?_
        · repeat' (first | (refine And.intro ?_ ?_) | (intro _))
          all_goals (dsimp only at *; omega)
        refine And.intro ?_ ?_
        · repeat' (first | (refine And.intro ?_ ?_) | (intro _))
          all_goals (dsimp only at *; omega)
        refine And.intro (fun hb => ?_) (fun _ => ?_)
        · refine (nopeT (or2f (or2f (or2f (or2f (or2f (or2f (or2f ?_ ?_) ?_) ?_) ?_) ?_) ?_) ?_) hb).elim
          · exact ne_no h1
          · exact ne_no h2
          · exact bnd_3 h3
          · exact vbeyond_no h4
          · exact vbeyond_no h5
          · exact lt_no h6.1
          · exact lt_no h6.2
          · exact bnd_4 h7
        have hT2 : T.n + 1 ≤ maxLen ∧ (T.n + 1) * 8 ≤ 140737488355328 := ⟨Nat.le_trans (by omega : T.n + 1 ≤ 1000) (by decide), by omega⟩
        have hS2 : S.n + 1 ≤ maxLen ∧ (S.n + 1) * 8 ≤ 140737488355328 := ⟨Nat.le_trans (by omega : S.n + 1 ≤ 1000) (by decide), by omega⟩
        refine And.intro ⟨hT2, fun _ _ _ => ⟨rfl, trivial⟩⟩ ?_
        refine And.intro ⟨hS2, fun _ _ _ => ⟨rfl, trivial⟩⟩ ?_
        refine And.intro ⟨by dsimp only; omega, by dsimp only; omega⟩ ?_
        refine And.intro ⟨by dsimp only; omega, by dsimp only; omega⟩ ?_
        refine And.intro ?_ ?_
        · repeat' (first | (refine And.intro ?_ ?_) | (intro _))
          all_goals (dsimp only at *; simp only [decide_eq_true_eq, decide_eq_false_iff_not] at *; omega)
        refine And.intro ?_ ?_
        · repeat' (first | (refine And.intro ?_ ?_) | (intro _))
          all_goals (dsimp only at *; omega)
        refine And.intro (fun hb => ?_) (fun _ => ?_)
        · exact (nopeT (bnd_5 h8) hb).elim
        refine And.intro ⟨by dsimp only; omega, by dsimp only; omega⟩ ?_
        refine ⟨⟨k + 1, (check w now' (as2 (F k))).w, now', T.push now', S.push (as2 (F k)).seq⟩, [(2, 9), (4, 11)], [], (by show m - (k + 1) < m - k; omega), ⟨hi, (by show k + 1 ≤ m; omega), (by show now' ≤ 255 * ((k + 1 : Nat) : Int); omega), Nat.succ_le_succ hT⟩, ?_⟩
        repeat' (first | (refine And.intro ?_ ?_) | exact rfl | (intro _))
        all_goals (rename_i j hj; exact pushEq hj)
  · have hb : ¬ (k : Int) < m := of_decide_eq_false hb
    repeat' (first | (refine And.intro ?_ ?_) | exact rfl | (intro _))
end Go.Proofs.YtinefblphbicaaaDoor
