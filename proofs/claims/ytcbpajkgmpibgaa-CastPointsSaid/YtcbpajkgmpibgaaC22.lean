/- CastPoints: the walk. -/
import Derived.Test.YtcbpajkgmpibgaaC21
namespace Go.Proofs.Ytcbpajkgmpibgaa
open Go.RowKit

def gB (b : Body) (k : Int) : Body := ⟨99, b.posX, b.posY, b.velX, b.velY, b.w + k, b.h + k, b.round, b.fixed⟩
def sqB (b : Body) (w h : Int) : Body := ⟨b.iD, b.posX, b.posY, b.velX, b.velY, w, h, false, b.fixed⟩
theorem gB_Sm {b : Body} (h : b.Sm) (h2 : b.w ≤ 500 ∧ b.h ≤ 500) {k : Int} (hk : 0 ≤ k ∧ k ≤ 50) : (gB b k).Sm := by
  have h4 := h.w
  have h5 := h.h
  refine ⟨by simp only [gB]; omega, h.x, h.y, by simp only [gB]; omega, by simp only [gB]; omega, fun hr => ?_, h.v⟩
  have := h.r hr
  simp only [gB]; omega
theorem gB_Gtr (b : Body) {k : Int} (hk : 0 ≤ k) : Gtr b (gB b k) := ⟨rfl, rfl, by simp only [gB]; omega, by simp only [gB]; omega, rfl⟩
theorem sqB_Sm {b : Body} (h : b.Sm) {w x : Int} (hw : 1 ≤ w ∧ w ≤ 1000) (hx : 1 ≤ x ∧ x ≤ 1000) : (sqB b w x).Sm := ⟨h.id, h.x, h.y, hw, hx, (fun hr => by cases (show false = true from hr)), h.v⟩
def ptsCut (b : Body) (p v : Vec) (k : Int) : Cut := ⟨Nat, fun i => i ≤ 26,
  fun i => ⟨[sl 5 (.v (.int .u8 k)), sl 13 (.p 2 0), sl 14 (.p 3 0), sl 15 (.p 4 0), sl 16 (.p 5 0), sl 17 (.v (.bool (meetsB b p (goV p v 25)))), sl 18 (.v (.int .i64 i))], [(2, .lay b.cells 36), (3, .lay p.cells 28), (4, .lay (goV p v 25).cells 28), (5, .lay v.cells 28)], 6, 0, [], []⟩, fun i => 26 - i⟩
theorem pts_has {b : Body} {p v : Vec} (hb : b.ok = true) (h : Near p v) {i : Int} (hi : 0 ≤ i ∧ i ≤ 25) : b.hasB (goV p v i) = meetsB b (goV p v i) (goV p v i) ∧ (b.hasB (goV p v i) = true → meetsB b p (goV p v 25) = true) := by
  have hin := h.inV (n := i) (by omega)
  have hsh : shortB (goV p v i) (goV p v i) = true := by unfold shortB; rw [Int.sub_self, Int.sub_self]; rfl
  refine ⟨by rw [meets_eq hb hin hin hsh, has_point hb], fun k => ?_⟩
  rw [h.meets hb (by omega)]
  exact (has_meets hb (by decide) hi.1 hi.2 k).1
set_option maxHeartbeats 20000000 in
set_option maxRecDepth 8000 in
theorem points_walk (f : Form) (x y dx dy k : Int) (hf : f.Ok) (hx : I8 x) (hy : I8 y) (hdx : I8 dx) (hdy : I8 dy) (hk : 0 ≤ k ∧ k ≤ 255) : evFn (C := cx) [conAwake, conMade, conEnds, conMeets, conAt, conHas, conBefore] [] 0 ⟨[13, 19, 21], [], [7], 0⟩ Try.f7 ((rds6 rdForm (rdI .i8) (rdI .i8) (rdI .i8) (rdI .i8) (rdI .u8)).enc (f, x, y, dx, dy, k)) fun v H _ => resOut (.bl true) H v := by
  have hN := near_ends (dx := dx) (dy := dy) hx hy
  have hsm := madeB_Sm hf (i := 0) (by decide)
  have hbo := hsm.ok
  refine And.intro ⟨one_al trivial, (by decide : (1 : Int) ≤ 1000000000000000000), one_al hf⟩ ?_
  refine And.intro (⟨by decide, by decide⟩ : (0 : Int) ≤ 0 ∧ (0 : Int) < (madeN 1 : Nat)) ?_
  refine And.intro ⟨hx, hy, hdx, hdy, (⟨by decide, by decide⟩ : (0 : Int) ≤ 25 ∧ (25 : Int) ≤ 100)⟩ ?_
  refine Exists.intro (ptsCut (madeB 0 f) (begV x y) (stepV dx dy) k) ?_
  refine And.intro ?_ ?_
  · refine ⟨(0 : Nat), [], [], trivial, Nat.zero_le _, ?_⟩
    repeat' (first | (refine And.intro ?_ ?_) | (intro _) | exact rfl)
  refine fun (i : Nat) (hi : i ≤ 26) => ?_
  refine And.intro (fun hb => ?_) (fun hb => ?_)
  · have hb : (i : Int) ≤ 25 := of_decide_eq_true hb
    obtain ⟨s1, s2⟩ := pts_has hbo hN (i := i) (by omega)
    obtain ⟨g1, g2, g3, g4⟩ := hN.go (n := i) (by omega)
    refine And.intro (by unfold I64; omega : I64 (i * (stepV dx dy).x)) ?_
    refine And.intro (by unfold I64; simp only [goV] at g1; omega : I64 ((begV x y).x + i * (stepV dx dy).x)) ?_
    refine And.intro (by unfold I64; omega : I64 (i * (stepV dx dy).y)) ?_
    refine And.intro (by unfold I64; simp only [goV] at g2; omega : I64 ((begV x y).y + i * (stepV dx dy).y)) ?_
    refine And.intro (fun hd => ?_) (fun hd => ?_)
    · have hd : (((madeB 0 f).hasB (goV (begV x y) (stepV dx dy) i) != meetsB (madeB 0 f) (goV (begV x y) (stepV dx dy) i) (goV (begV x y) (stepV dx dy) i)) || ((madeB 0 f).hasB (goV (begV x y) (stepV dx dy) i) && !meetsB (madeB 0 f) (begV x y) (goV (begV x y) (stepV dx dy) 25))) = true := hd
      rw [← s1] at hd
      cases hh : (madeB 0 f).hasB (goV (begV x y) (stepV dx dy) i) with
      | false => rw [hh] at hd; exact (Bool.false_ne_true hd).elim
      | true => rw [hh, s2 hh] at hd; exact (Bool.false_ne_true hd).elim
    · clear hd
      refine And.intro (by unfold I64; omega : I64 ((i : Int) + 1)) ?_
      refine ⟨i + 1, [], [], (by show 26 - (i + 1) < 26 - i; omega), (by omega : i + 1 ≤ 26), ?_⟩
      repeat' (first | (refine And.intro ?_ ?_) | (intro _) | exact rfl)
  · clear hb
    have tm : 0 ≤ k.tmod 51 ∧ k.tmod 51 ≤ 50 := by
      have := Int.tmod_eq_emod_of_nonneg (b := 51) hk.1
      omega
    have bw := hsm.w
    have bh := hsm.h
    have bw1 : (madeB 0 f).w ≤ 100 ∧ (madeB 0 f).h ≤ 100 := by
      obtain ⟨-, -, ⟨f5, -⟩, f7, -⟩ := hf
      have m1 := tmod100 f5
      have m2 := tmod100 f7
      simp only [madeB]
      cases f.round <;> simp only [cond_true, cond_false] <;> omega
    have gk : I64 (k.tmod 51) := by unfold I64; omega
    refine And.intro gk ?_
    refine And.intro (by unfold I64; omega : I64 ((madeB 0 f).w + k.tmod 51)) ?_
    refine And.intro gk ?_
    refine And.intro (by unfold I64; omega : I64 ((madeB 0 f).h + k.tmod 51)) ?_
    have hg := (gB_Sm hsm (by omega) tm).ok
    have hgt := gB_Gtr (madeB 0 f) tm.1
    have ip := hN.inP
    have iq := hN.inV (n := 25) (by omega)
    have hs := hN.short (n := 25) (by omega)
    have em := meets_eq hbo ip iq hs
    have eg := meets_eq hg ip iq hs
    have eb := before_val hg hbo ip iq hs
    refine And.intro (fun hc => ?_) (fun hc => ?_)
    · have hc : ((meetsB (madeB 0 f) (begV x y) (goV (begV x y) (stepV dx dy) 25) && (decide (¬ (beforeE (gB (madeB 0 f) (k.tmod 51)) (madeB 0 f) (begV x y) (goV (begV x y) (stepV dx dy) 25)).2 = 0) || decide (0 < (beforeE (gB (madeB 0 f) (k.tmod 51)) (madeB 0 f) (begV x y) (goV (begV x y) (stepV dx dy) 25)).1) || !meetsB (gB (madeB 0 f) (k.tmod 51)) (begV x y) (goV (begV x y) (stepV dx dy) 25))) || (!meetsB (madeB 0 f) (begV x y) (goV (begV x y) (stepV dx dy) 25) && decide (¬ (beforeE (gB (madeB 0 f) (k.tmod 51)) (madeB 0 f) (begV x y) (goV (begV x y) (stepV dx dy) 25)).2 = 6))) = true := hc
      exfalso
      rw [em, eg, eb] at hc
      cases hm : (whereP (madeB 0 f) (begV x y) (goV (begV x y) (stepV dx dy) 25)).2 with
      | false =>
        rw [hm] at hc
        simp at hc
      | true =>
        obtain ⟨k1, k2⟩ := hgt.met hbo hg hm
        rw [hm, k1] at hc
        simp at hc
        omega
    clear hc
    refine And.intro (fun hr => ?_) (fun hr => ?_)
    · exact rfl
    have hr : (!(madeB 0 f).round) = false := hr
    have hr : (madeB 0 f).round = true := by simpa using hr
    have td : ((madeB 0 f).w * 7).tdiv 10 = (madeB 0 f).w * 7 / 10 := Int.tdiv_eq_ediv_of_nonneg (by omega)
    have i7 : I64 ((madeB 0 f).w * 7) := by unfold I64; omega
    have i8 : I64 (((madeB 0 f).w * 7).tdiv 10) := by unfold I64; omega
    refine And.intro i7 ?_
    refine And.intro i8 ?_
    refine And.intro i7 ?_
    refine And.intro i8 ?_
    refine Eq.trans (a := true) (b := (!meetsB (madeB 0 f) (begV x y) (goV (begV x y) (stepV dx dy) 25) || meetsB (sqB (madeB 0 f) (madeB 0 f).w (madeB 0 f).h) (begV x y) (goV (begV x y) (stepV dx dy) 25)) && (decide ((madeB 0 f).w < 2) || !meetsB (sqB (madeB 0 f) (max (((madeB 0 f).w * 7).tdiv 10) 1) (max (((madeB 0 f).w * 7).tdiv 10) 1)) (begV x y) (goV (begV x y) (stepV dx dy) 25) || meetsB (madeB 0 f) (begV x y) (goV (begV x y) (stepV dx dy) 25))) ?_ rfl
    rw [td]
    have ha := (sqB_Sm hsm (w := (madeB 0 f).w) (x := (madeB 0 f).h) (by omega) (by omega)).ok
    have hi := (sqB_Sm hsm (w := max ((madeB 0 f).w * 7 / 10) 1) (x := max ((madeB 0 f).w * 7 / 10) 1) (by omega) (by omega)).ok
    rw [em, meets_eq ha ip iq hs, meets_eq hi ip iq hs]
    have a1 := met_mono (p := begV x y) (q := goV (begV x y) (stepV dx dy) 25) hbo ha fun a c _ k => about_inb hbo ha ⟨rfl, rfl, rfl, rfl, rfl⟩ k
    cases hw : decide ((madeB 0 f).w < 2) with
    | true =>
      cases hm : (whereP (madeB 0 f) (begV x y) (goV (begV x y) (stepV dx dy) 25)).2 with
      | false => rfl
      | true => rw [a1 hm]; rfl
    | false =>
      have hw := of_decide_eq_false hw
      have a2 := met_mono (p := begV x y) (q := goV (begV x y) (stepV dx dy) 25) hi hbo fun a c hc k => in_inb hbo hi hr ⟨rfl, rfl, rfl, by
        show 2 * (max ((madeB 0 f).w * 7 / 10) 1 * max ((madeB 0 f).w * 7 / 10) 1) ≤ (madeB 0 f).w * (madeB 0 f).w
        generalize (madeB 0 f).w = w at *
        obtain ⟨u, hu⟩ : ∃ u, u = max (w * 7 / 10) 1 := ⟨_, rfl⟩
        rw [← hu]
        have h1 : 10 * u ≤ 7 * w ∨ u = 1 ∧ w = 2 := by omega
        rcases h1 with h1 | ⟨rfl, rfl⟩
        · have h2 := sq_le (x := 10 * u) (y := 7 * w) (by omega) h1
          have e1 : 10 * u * (10 * u) = 100 * (u * u) := by grind
          have e2 : 7 * w * (7 * w) = 49 * (w * w) := by grind
          have := sq_nn w
          have := sq_nn u
          omega
        · decide⟩ hc k
      cases hm : (whereP (madeB 0 f) (begV x y) (goV (begV x y) (stepV dx dy) 25)).2 with
      | true => rw [a1 hm]; simp
      | false =>
        cases hn : (whereP (sqB (madeB 0 f) (max ((madeB 0 f).w * 7 / 10) 1) (max ((madeB 0 f).w * 7 / 10) 1)) (begV x y) (goV (begV x y) (stepV dx dy) 25)).2 with
        | false => rfl
        | true => rw [a2 hn] at hm; cases hm
end Go.Proofs.Ytcbpajkgmpibgaa
