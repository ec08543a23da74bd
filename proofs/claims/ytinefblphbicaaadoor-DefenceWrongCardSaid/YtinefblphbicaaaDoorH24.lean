/- DefenceCalms, the walk. -/
import Derived.Test.YtinefblphbicaaaDoorH22
import Derived.Test.YtinefblphbicaaaDoorH21
namespace Go.Proofs.YtinefblphbicaaaDoor
open Go.RowKit

def calSl (M : Fam) (m : Nat) (a b : Int) (k : Nat) : List (Nat × Slot) := [sl 1 (.v (.int .u16 a)), sl 2 (.v (.int .u16 b)), sl 7 (.p 0 0), sl 8 (.il .i64 0), sl 27 (.rs 1 m (cellsU M.g)), sl 28 (.v (.int .i64 m)), sl 29 (.v (.int .i64 k))]
def calC (M : Fam) (m : Nat) (a b : Int) : Cut := ⟨Nat × Watch, fun x => CInv x.2 x.1 ∧ x.1 ≤ m, fun x => ⟨calSl M m a b x.1, [(0, .lay x.2.cells 27)], 1, 0, [], []⟩, fun x => m - x.1⟩
/-- The flag is at hand. -/
def calC2 (M : Fam) (m : Nat) (a b : Int) (k : Nat) (w : Watch) : Cut := ⟨Int, fun f => f = 1 ∨ f = 2 ∨ f = 3 ∨ f = 4 ∨ f = 5 ∨ f = 6 ∨ f = 7, fun f => ⟨sl 11 (.il .u8 f) :: calSl M m a b k, [(0, .lay w.cells 27)], 1, 0, [], []⟩, fun _ => 0⟩
/-- The points are added up. -/
def calC3 (a b : Int) (w : Watch) : Cut := ⟨Int, fun p => p = w.points, fun p => ⟨[sl 1 (.v (.int .u16 a)), sl 2 (.v (.int .u16 b)), sl 7 (.p 0 0), sl 8 (.v (.int .i64 p))], [(0, .lay w.cells 27)], 1, 0, [], []⟩, fun _ => 0⟩
theorem bne_no {a b : Bool} (h : a = b) : (a != b) = false := by rw [h]; cases b <;> rfl
def cw0 : Watch := ⟨1, 0, ⟨0, fun _ => 0⟩, 0, 0, 0, 0, 0, 0, 0, 0, 9⟩
theorem cw0_inv : CInv cw0 0 := ⟨Watch.Ok.of (by decide +kernel), rfl, rfl, rfl, ⟨Int.le_refl _, Int.le_refl _, Int.le_refl _, Int.le_refl _, Int.le_refl _, Int.le_refl _, Int.le_refl _⟩, rfl, Int.le_refl _⟩
set_option maxHeartbeats 8000000 in
set_option maxRecDepth 8000 in
theorem calms_walk (M : Fam) (a b : Int) (hM : (M.n : Int) ≤ 9223372036854775807) (hMv : ∀ i, i < M.n → 0 ≤ M.g i ∧ M.g i ≤ 255) (ha : 0 ≤ a ∧ a ≤ 65535) (hb' : 0 ≤ b ∧ b ≤ 65535) :
    evFn (C := cx) [conMark, conSuspect, conCalm, conSame, conAwake] [] 0 ⟨[], [7, 17], [4], 8⟩ Tryd.f6 [.rs 1 M.n (cellsU M.g), .v (.int .u16 a), .v (.int .u16 b)] fun v H _ => resOut (.bl true) H v := by
  obtain ⟨m, hm⟩ : ∃ m, m = (min (M.n : Int) 100).toNat := ⟨_, rfl⟩
  refine And.intro ⟨by omega, by omega⟩ ?_
  refine Exists.intro (calC M m a b) ?_
  refine And.intro ?_ ?_
  · refine ⟨(0, cw0), [], [], trivial, ⟨cw0_inv, Nat.zero_le _⟩, ?_⟩
    repeat' (first | (refine And.intro ?_ ?_) | exact rfl | (intro _))
    all_goals first
      | exact hm
      | exact congrArg (fun q : Nat => (q : Int)) hm
      | skip
  refine fun (x : Nat × Watch) (hx : CInv x.2 x.1 ∧ x.1 ≤ m) => ?_
  obtain ⟨k, w⟩ := x
  obtain ⟨hI, hk⟩ : CInv w k ∧ k ≤ m := hx
  have hm2 : m ≤ M.n ∧ m ≤ 100 := by omega
  refine And.intro (fun hb => ?_) (fun hb => ?_)
  · have hb : (k : Int) < m := of_decide_eq_true hb
    have hl := hMv k (by omega)
    refine And.intro ⟨by omega, by omega⟩ ?_
    refine Exists.intro (calC2 M m a b k w) ?_
    refine And.intro ?_ ?_
    · generalize hn : M.g k = n at hl
      have hn2 : M.g (k : Int).toNat = n := by rw [Int.toNat_natCast]; exact hn
      have t0 : n.tmod 7 = n % 7 := Int.tmod_eq_emod_of_nonneg hl.1
      refine ⟨1 + n % 7, [], [], trivial, by show 1 + n % 7 = 1 ∨ _; omega, ?_⟩
      repeat' (first | (refine And.intro ?_ ?_) | exact rfl | (intro _))
      show 1 + n % 7 = IntKind.u8.wrap (1 + (M.g (k : Int).toNat).tmod 7)
      rw [hn2, t0]
      show _ = (1 + n % 7) % 256
      omega
    refine fun (f : Int) (hf : f = 1 ∨ f = 2 ∨ f = 3 ∨ f = 4 ∨ f = 5 ∨ f = 6 ∨ f = 7) => ?_
    have hw0 : (w.times.n : Int) ≤ 1000000 := by have := hI.tn; omega
    refine And.intro ⟨fun _ _ => trivial, hw0⟩ ?_
    have hs := calm_step hI (by omega) hf
    have hmk := mark_good (f := f) hI.ok (by omega)
    rw [show w.mark1 f = (mark w f).1 by rw [hmk]] at hs
    have he : (mark w f).2 = 0 := by rw [hmk]
    obtain ⟨l0, l1, l2, l3, l4, l5, l6⟩ := hI.lim
    obtain ⟨c0, c1, c2, c3, c4, c5, c6, p0, p1⟩ := hI.ok.f
    have hpts : w.points ≤ (mark w f).1.points := by
      rw [hmk]
      have := cost_nn f
      show w.points ≤ min (w.points + costOf f) 1048576
      omega
    have hcnt : (f = 1 → (mark w f).1.counts0 = w.counts0 + 1) ∧ (f = 2 → (mark w f).1.counts1 = w.counts1 + 1) ∧ (f = 3 → (mark w f).1.counts2 = w.counts2 + 1) ∧ (f = 4 → (mark w f).1.counts3 = w.counts3 + 1) ∧ (f = 5 → (mark w f).1.counts4 = w.counts4 + 1) ∧ (f = 6 → (mark w f).1.counts5 = w.counts5 + 1) ∧ (f = 7 → (mark w f).1.counts6 = w.counts6 + 1) := by
      rw [hmk]
      refine ⟨fun e => ?_, fun e => ?_, fun e => ?_, fun e => ?_, fun e => ?_, fun e => ?_, fun e => ?_⟩
      all_goals
        subst e
        simp only [Watch.mark1, if_true]
        exact bump_lt ‹_› (by omega)
    obtain ⟨q0, q1, q2, q3, q4, q5, q6⟩ := hcnt
    obtain rfl | rfl | rfl | rfl | rfl | rfl | rfl := hf
    all_goals
      refine And.intro (by repeat' (first | (refine And.intro ?_ ?_) | (intro _))
                           all_goals omega) ?_
      refine And.intro (fun hb => ?_) (fun _ => ?_)
      · refine (nopeT (or2f (or2f (ne_no he) (ne_no ?_)) (lt_no hpts)) hb).elim
        first | exact q0 rfl | exact q1 rfl | exact q2 rfl | exact q3 rfl | exact q4 rfl | exact q5 rfl | exact q6 rfl
      refine And.intro ⟨by omega, by omega⟩ ?_
      refine ⟨(k + 1, (mark w _).1), [], [], (by show m - (k + 1) < m - k; omega), ⟨hs, (by show k + 1 ≤ m; omega)⟩, ?_⟩
      repeat' (first | (refine And.intro ?_ ?_) | exact rfl | (intro _))
  · have hb : ¬ (k : Int) < m := of_decide_eq_false hb
    obtain ⟨l0, l1, l2, l3, l4, l5, l6⟩ := hI.lim
    obtain ⟨c0, c1, c2, c3, c4, c5, c6, p0, p1⟩ := hI.ok.f
    have hp := hI.p
    have hw0 : (w.times.n : Int) ≤ 1000000 := by have := hI.tn; omega
    refine Exists.intro (calC3 a b w) ?_
    refine And.intro ?_ ?_
    · iterate 14 refine And.intro (by dsimp only; simp only [Int.ofNat_eq_natCast]; constructor <;> omega) ?_
      refine ⟨w.points, [], [], trivial, rfl, ?_⟩
      repeat' (first | (refine And.intro ?_ ?_) | exact rfl | (intro _))
      dsimp only
      simp only [Int.ofNat_eq_natCast]
      omega
    refine fun (p : Int) (hpp : p = w.points) => ?_
    obtain ⟨k1, k2, k3, k4, k5, k6, k7, k8, k9⟩ := calm_law hI ha hb'
    have hsu : w.suspect = decide (100 ≤ p) := by rw [hpp]; unfold Watch.suspect; rw [hI.ok.to]; rfl
    refine And.intro (fun _ => ⟨fun _ _ => trivial, hw0⟩) ?_
    refine And.intro (fun hb => ?_) (fun _ => ?_)
    · refine (nopeT (or2f (ne_no hpp.symm) (bne_no hsu)) hb).elim
    have z : ∀ {q : Nat}, q = 0 → (q : Int) ≤ 1000000 := fun h => by rw [h]; decide
    have ia : InR a := ⟨by omega, by omega⟩
    have ib : InR b := ⟨by omega, by omega⟩
    have ia9 : InR (9 + a) := ⟨by omega, by omega⟩
    have iab : InR (9 + a + b) := ⟨by omega, by omega⟩
    refine And.intro ia ?_
    refine And.intro ia9 ?_
    refine And.intro ⟨fun _ _ => trivial, hw0⟩ ?_
    refine And.intro ia ?_
    refine And.intro ia9 ?_
    refine And.intro ib ?_
    refine And.intro iab ?_
    refine And.intro ⟨fun _ _ => trivial, z k7⟩ ?_
    refine And.intro ia ?_
    refine And.intro ia9 ?_
    refine And.intro ib ?_
    refine And.intro iab ?_
    refine And.intro ⟨fun _ _ => trivial, hw0⟩ ?_
    refine And.intro (fun _ => ⟨fun _ _ => trivial, fun _ _ => trivial, z k8, z k9⟩) ?_
    have d1 : (a + b).tdiv 32 = (a + b) / 32 := Int.tdiv_eq_ediv_of_nonneg (by omega)
    have d2 : a.tdiv 32 = a / 32 := Int.tdiv_eq_ediv_of_nonneg (by omega)
    iterate 8 refine And.intro (by repeat' (first | (refine And.intro ?_ ?_) | (intro _))
                                   all_goals (try simp only [d1, d2]); omega) ?_
    refine Eq.trans ?_ rfl
    have q : ∀ {a b c d e f : Bool}, a = true → b = true → c = true → d = true → e = true → f = true → true = (a && b && c && d && e && f || false) := by
      intro a b c d e f h1 h2 h3 h4 h5 h6
      rw [h1, h2, h3, h4, h5, h6]
      rfl
    refine q (decide_eq_true k1) (decide_eq_true k2) (decide_eq_true k3) k4 ?_ ?_
    · show decide ((calm w (9 + a + b)).1.points = max 0 (p - (a + b).tdiv 32)) = true
      rw [d1, hpp]
      exact decide_eq_true k5
    · show decide ((calm w (9 + a)).1.points = max 0 (p - a.tdiv 32)) = true
      rw [d2, hpp]
      exact decide_eq_true k6
end Go.Proofs.YtinefblphbicaaaDoor
