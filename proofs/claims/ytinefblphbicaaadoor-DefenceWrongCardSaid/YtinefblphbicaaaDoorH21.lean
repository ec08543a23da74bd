/- DefenceHonest, the walk. -/
import Derived.Test.YtinefblphbicaaaDoorH19
import Derived.Test.YtinefblphbicaaaDoorH18
namespace Go.Proofs.YtinefblphbicaaaDoor
open Go.RowKit

structure HSt where
  k : Nat
  w : Watch
  now : Int
  seq : Int
def honSl (L : Fam) (m : Nat) (x : HSt) : List (Nat × Slot) := [sl 5 (.p 0 0), sl 6 (.v (.int .i64 x.now)), sl 7 (.v (.int .i64 x.seq)), sl 23 (.rs 1 m fun i => [.v (.int .u32 (L.g i))]), sl 24 (.v (.int .i64 m)), sl 25 (.v (.int .i64 x.k))]
def HP (m : Nat) (x : HSt) : Prop := HInv x.w x.now x.seq ∧ x.k ≤ m ∧ (0 ≤ x.now ∧ x.now ≤ 65535 + 3 * x.k) ∧ 0 ≤ x.seq ∧ x.seq ≤ 4 * x.k
def honC (L : Fam) (m : Nat) : Cut := ⟨HSt, HP m, fun x => ⟨honSl L m x, [(0, .lay x.w.cells 27)], 1, 0, [], []⟩, fun x => m - x.k⟩
/-- Ahead of the call: the new numbers, the input. -/
def honC2 (L : Fam) (m : Nat) (x : HSt) : Cut := ⟨Int × Int × Input, fun y => (x.now < y.1 ∧ y.1 ≤ x.now + 3) ∧ (x.seq < y.2.1 ∧ y.2.1 ≤ x.seq + 4) ∧ y.2.2.client = 5 ∧ y.2.2.seq = y.2.1 ∧ Fair y.2.2 y.1,
  fun y => ⟨sl 10 (.p 1 0) :: honSl L m { x with now := y.1, seq := y.2.1 }, [(0, .lay x.w.cells 27), (1, .lay y.2.2.cells 31)], 2, 0, [], []⟩, fun _ => 0⟩
def hw0 : Watch := ⟨5, 0, ⟨0, fun _ => 0⟩, 0, 0, 0, 0, 0, 0, 0, 0, 0⟩
theorem hw0_inv (now : Int) : HInv hw0 now 0 := ⟨Watch.Ok.of (by decide +kernel), rfl, rfl, fun i j _ hj => absurd hj (Nat.not_lt_zero _), fun i hi => absurd hi (Nat.not_lt_zero _), ⟨rfl, rfl, rfl, rfl, rfl, rfl, rfl⟩, rfl⟩
def honFire (n : Int) : Bool := decide (bitsI BinOp.and IntKind.u32 n 1 = 1)
theorem notf {b : Bool} (h : b = true) : (!b) = false := by rw [h]; rfl
theorem cnt_no {w : Watch} (h : w.counts0 = 0 ∧ w.counts1 = 0 ∧ w.counts2 = 0 ∧ w.counts3 = 0 ∧ w.counts4 = 0 ∧ w.counts5 = 0 ∧ w.counts6 = 0) :
    (!(decide (w.counts0 = 0) && (decide (w.counts1 = 0) && (decide (w.counts2 = 0) && (decide (w.counts3 = 0) && (decide (w.counts4 = 0) && (decide (w.counts5 = 0) && decide (w.counts6 = 0)))))))) = false := by
  obtain ⟨h0, h1, h2, h3, h4, h5, h6⟩ := h
  rw [h0, h1, h2, h3, h4, h5, h6]
  rfl
set_option maxHeartbeats 8000000 in
set_option maxRecDepth 8000 in
theorem honest_walk (first : Int) (L : Fam) (hf : 0 ≤ first ∧ first ≤ 65535) (hn : (L.n : Int) ≤ 9223372036854775807) (hL : ∀ i, i < L.n → 0 ≤ L.g i ∧ L.g i < 4294967296) : evFn (C := cx) [conCheck, conSuspect, conAwake] [] 0 ⟨[], [11], [4], 0⟩ Tryd.f4 [.v (.int .u16 first), .rs 1 L.n fun i => [.v (.int .u32 (L.g i))]] fun v H _ => resOut (.bl true) H v := by
  obtain ⟨m, hm⟩ : ∃ m, m = (min (L.n : Int) 200).toNat := ⟨_, rfl⟩
  refine And.intro ⟨by omega, by omega⟩ ?_
  refine And.intro ⟨by omega, by omega⟩ ?_
  refine Exists.intro (honC L m) ?_
  refine And.intro ?_ ?_
  · refine ⟨⟨0, hw0, first, 0⟩, [], [], trivial, ⟨hw0_inv first, Nat.zero_le _, ⟨hf.1, by show first ≤ 65535 + 3 * 0; omega⟩, Int.le_refl _, Int.le_refl _⟩, ?_⟩
    repeat' (first | (refine And.intro ?_ ?_) | exact rfl | (intro _))
    all_goals first
      | exact hm
      | exact congrArg (fun q : Nat => (q : Int)) hm
      | skip
  refine fun (x : HSt) (hx : HP m x) => ?_
  obtain ⟨k, w, now, seq⟩ := x
  obtain ⟨hI, hk, hnow, hseq⟩ : HInv w now seq ∧ k ≤ m ∧ (0 ≤ now ∧ now ≤ 65535 + 3 * k) ∧ 0 ≤ seq ∧ seq ≤ 4 * k := hx
  have hm2 : m ≤ L.n ∧ m ≤ 200 := by omega
  refine And.intro (fun hb => ?_) (fun hb => ?_)
  · have hb : (k : Int) < m := of_decide_eq_true hb
    have hl := hL k (by omega)
    refine And.intro ⟨by omega, by omega⟩ ?_
    generalize hn : L.g k = n at hl
    have hn2 : L.g (k : Int).toNat = n := by rw [Int.toNat_natCast]; exact hn
    have e2 : n.fdiv (2 ^ min (Int.toNat 2) IntKind.u32.bits) = n / 4 := Int.fdiv_eq_ediv_of_nonneg _ (by decide)
    have e4 : n.fdiv (2 ^ min (Int.toNat 4) IntKind.u32.bits) = n / 16 := Int.fdiv_eq_ediv_of_nonneg _ (by decide)
    have e8 : n.fdiv (2 ^ min (Int.toNat 8) IntKind.u32.bits) = n / 256 := Int.fdiv_eq_ediv_of_nonneg _ (by decide)
    have e6 : n.fdiv (2 ^ min (Int.toNat 6) IntKind.u32.bits) = n / 64 := Int.fdiv_eq_ediv_of_nonneg _ (by decide)
    have e9 : n.fdiv (2 ^ min (Int.toNat 9) IntKind.u32.bits) = n / 512 := Int.fdiv_eq_ediv_of_nonneg _ (by decide)
    have e12 : n.fdiv (2 ^ min (Int.toNat 12) IntKind.u32.bits) = n / 4096 := Int.fdiv_eq_ediv_of_nonneg _ (by decide)
    have e20 : n.fdiv (2 ^ min (Int.toNat 20) IntKind.u32.bits) = n / 1048576 := Int.fdiv_eq_ediv_of_nonneg _ (by decide)
    have t0 : n.tmod 3 = n % 3 := Int.tmod_eq_emod_of_nonneg hl.1
    have t1 : n.tmod 16385 = n % 16385 := Int.tmod_eq_emod_of_nonneg hl.1
    have t2 : (n / 4).tmod 4 = n / 4 % 4 := Int.tmod_eq_emod_of_nonneg (by omega)
    have t4 : (n / 16).tmod 25 = n / 16 % 25 := Int.tmod_eq_emod_of_nonneg (by omega)
    have t8 : (n / 256).tmod 129 = n / 256 % 129 := Int.tmod_eq_emod_of_nonneg (by omega)
    have t6 : (n / 64).tmod 129 = n / 64 % 129 := Int.tmod_eq_emod_of_nonneg (by omega)
    have t9 : (n / 512).tmod 16385 = n / 512 % 16385 := Int.tmod_eq_emod_of_nonneg (by omega)
    have t12 : (n / 4096).tmod 17 = n / 4096 % 17 := Int.tmod_eq_emod_of_nonneg (by omega)
    have t20 : (n / 1048576).tmod 16 = n / 1048576 % 16 := Int.tmod_eq_emod_of_nonneg (by omega)
    repeat' (first | (refine And.intro ?_ ?_) | (intro _))
    all_goals first
      | (dsimp only; simp only [hn2, e2, e4, e8, e6, e9, e12, e20, t0, t1, t2, t4, t8, t6, t9, t12, t20]; omega)
      | skip
    refine Exists.intro (honC2 L m ⟨k, w, now, seq⟩) ?_
    refine And.intro ?_ ?_
    · refine And.intro (fun hc => ?_) (fun hc => ?_)
      · refine And.intro (by simp only [hn2, e20]; constructor <;> omega) ?_
        have hc : max (now + (1 + (L.g (k : Int).toNat).tmod 3) - ((L.g (k : Int).toNat).fdiv (2 ^ min (Int.toNat 12) IntKind.u32.bits)).tmod 17) 0 < now + (1 + (L.g (k : Int).toNat).tmod 3) := of_decide_eq_true hc
        simp only [hn2, e12, t0, t12] at hc
        refine ⟨(now + (1 + n % 3), seq + (1 + n / 4 % 4), ⟨5, seq + (1 + n / 4 % 4), now + (1 + n % 3) - 16 + n / 16 % 25, n / 256 % 129 - 64, 64 - n / 64 % 129, honFire (L.g (k : Int).toNat), n / 512 % 16385 - 8192, 8192 - n % 16385, max (now + (1 + n % 3) - n / 4096 % 17) 0, n / 1048576 % 16⟩), [], [], trivial, ?_, ?_⟩
        · refine ⟨⟨by dsimp only; omega, by dsimp only; omega⟩, ⟨by dsimp only; omega, by dsimp only; omega⟩, rfl, rfl, ?_⟩
          constructor <;> dsimp only <;> omega
        · repeat' (first | (refine And.intro ?_ ?_) | exact rfl | (intro _))
          all_goals first
            | (show n / 1048576 % 16 = ((L.g (k : Int).toNat).fdiv (2 ^ min (Int.toNat 20) IntKind.u32.bits)).tmod 16; rw [hn2, e20, t20])
            | (dsimp only; simp only [hn2, e2, e4, e8, e6, e9, e12, e20, t0, t1, t2, t4, t8, t6, t9, t12, t20]; done)
            | rfl
            | skip
      · have hc : ¬ max (now + (1 + (L.g (k : Int).toNat).tmod 3) - ((L.g (k : Int).toNat).fdiv (2 ^ min (Int.toNat 12) IntKind.u32.bits)).tmod 17) 0 < now + (1 + (L.g (k : Int).toNat).tmod 3) := of_decide_eq_false hc
        simp only [hn2, e12, t0, t12] at hc
        refine ⟨(now + (1 + n % 3), seq + (1 + n / 4 % 4), ⟨5, seq + (1 + n / 4 % 4), now + (1 + n % 3) - 16 + n / 16 % 25, n / 256 % 129 - 64, 64 - n / 64 % 129, honFire (L.g (k : Int).toNat), n / 512 % 16385 - 8192, 8192 - n % 16385, max (now + (1 + n % 3) - n / 4096 % 17) 0, 0⟩), [], [], trivial, ?_, ?_⟩
        · refine ⟨⟨by dsimp only; omega, by dsimp only; omega⟩, ⟨by dsimp only; omega, by dsimp only; omega⟩, rfl, rfl, ?_⟩
          constructor <;> dsimp only <;> omega
        · repeat' (first | (refine And.intro ?_ ?_) | exact rfl | (intro _))
          all_goals first
            | (dsimp only; simp only [hn2, e2, e4, e8, e6, e9, e12, e20, t0, t1, t2, t4, t8, t6, t9, t12, t20]; done)
            | rfl
            | skip
    · refine fun (y : Int × Int × Input) (hy : (now < y.1 ∧ y.1 ≤ now + 3) ∧ (seq < y.2.1 ∧ y.2.1 ≤ seq + 4) ∧ y.2.2.client = 5 ∧ y.2.2.seq = y.2.1 ∧ Fair y.2.2 y.1) => ?_
      obtain ⟨now', seq', i⟩ := y
      obtain ⟨h1, h2, h3, h4, h5⟩ : (now < now' ∧ now' ≤ now + 3) ∧ (seq < seq' ∧ seq' ≤ seq + 4) ∧ i.client = 5 ∧ i.seq = seq' ∧ Fair i now' := hy
      have hwn := hI.ok.n
      have hin : i.In := by
        have hm := h5.m
        have ha := h5.a
        exact ⟨⟨⟨by omega, by omega⟩, by omega, by omega⟩, ⟨by omega, by omega⟩, by omega, by omega⟩
      obtain ⟨s1, s2, s3, s4, s5, s6⟩ := honest_step hI h1.1 (by omega) (by omega) h3 (by omega) h5
      have hwn2 := s6.ok.n
      refine And.intro ⟨fun _ _ => trivial, by show (w.times.n : Int) ≤ 1000000; omega, hin⟩ ?_
      refine And.intro (fun _ => ⟨fun _ _ => trivial, by show ((check w now' i).w.times.n : Int) ≤ 1000000; omega⟩) ?_
      refine And.intro (fun hb => ?_) (fun _ => ?_)
      · refine (nopeT (or2f (or2f (or2f (or2f (or2f (or2f ?_ ?_) ?_) ?_) ?_) ?_) ?_) hb).elim
        · exact ne_no s1
        · exact notf s2
        · exact ne_no (congrArg (fun q : Nat => (q : Int)) s3)
        · exact neB s4
        · exact ne_no s6.p
        · exact cnt_no s6.c
        · exact s5
      refine And.intro ⟨by dsimp only; omega, by dsimp only; omega⟩ ?_
      refine ⟨⟨k + 1, (check w now' i).w, now', seq'⟩, [], [], (by show m - (k + 1) < m - k; omega), ⟨by rw [← h4]; exact s6, (by show k + 1 ≤ m; omega), ⟨(by show 0 ≤ now'; omega), (by show now' ≤ 65535 + 3 * ((k + 1 : Nat) : Int); omega)⟩, (by show 0 ≤ seq'; omega), (by show seq' ≤ 4 * ((k + 1 : Nat) : Int); omega)⟩, ?_⟩
      repeat' (first | (refine And.intro ?_ ?_) | exact rfl | (intro _))
      all_goals skip
  · have hb : ¬ (k : Int) < m := of_decide_eq_false hb
    repeat' (first | (refine And.intro ?_ ?_) | exact rfl | (intro _))
end Go.Proofs.YtinefblphbicaaaDoor
