/- CastParts. -/
import Derived.Test.YtcbpajkgmpibgaaC19
import Derived.Test.YtcbpajkgmpibgaaK4
namespace Go.Proofs.Ytcbpajkgmpibgaa
open Go.RowKit

theorem madeB_Ok {f : Form} (h : f.Ok) {i : Nat} (hi : i ≤ 20) : (madeB i f).Ok := by
  obtain ⟨⟨f1, f2⟩, ⟨f3, f4⟩, ⟨f5, f6⟩, f7, f8⟩ := h
  have m1 := tmod100 f5
  have m2 := tmod100 f7
  refine ⟨?_, ?_, ?_, ?_, ?_, fun hr => ?_⟩ <;> simp only [madeB] at *
  · omega
  · omega
  · omega
  · omega
  · cases f.round <;> simp only [cond_true, cond_false] <;> omega
  · rw [hr]; rfl
theorem madeB_ok {f : Form} (h : f.Ok) {i : Nat} (hi : i ≤ 20) : (madeB i f).ok = true := Body.ok_of (madeB_Ok h hi) ⟨rfl, rfl⟩
theorem step_rng (dx dy : Int) : (-15 ≤ (stepV dx dy).x ∧ (stepV dx dy).x ≤ 15) ∧ -15 ≤ (stepV dx dy).y ∧ (stepV dx dy).y ≤ 15 := ⟨tmod16 dx, tmod16 dy⟩
structure Near (p v : Vec) : Prop where
  x : -384 ≤ p.x ∧ p.x ≤ 384
  y : -384 ≤ p.y ∧ p.y ≤ 384
  vx : -15 ≤ v.x ∧ v.x ≤ 15
  vy : -15 ≤ v.y ∧ v.y ≤ 15
theorem near_ends {x y dx dy : Int} (hx : I8 x) (hy : I8 y) : Near (begV x y) (stepV dx dy) := by
  unfold I8 at hx hy
  exact ⟨⟨by simp only [begV]; omega, by simp only [begV]; omega⟩, ⟨by simp only [begV]; omega, by simp only [begV]; omega⟩, tmod16 dx, tmod16 dy⟩
theorem Near.go {p v : Vec} (h : Near p v) {n : Int} (hn : 0 ≤ n ∧ n ≤ 100) : (-1884 ≤ (goV p v n).x ∧ (goV p v n).x ≤ 1884) ∧ (-1884 ≤ (goV p v n).y ∧ (goV p v n).y ≤ 1884) ∧ (-1500 ≤ n * v.x ∧ n * v.x ≤ 1500) ∧ -1500 ≤ n * v.y ∧ n * v.y ≤ 1500 := by
  have b1 := mul_bd (x := n) (y := v.x) (a := 100) (b := 15) (by omega) h.vx
  have b2 := mul_bd (x := n) (y := v.y) (a := 100) (b := 15) (by omega) h.vy
  have := h.x
  have := h.y
  refine ⟨⟨?_, ?_⟩, ⟨?_, ?_⟩, by omega, by omega⟩ <;> simp only [goV] <;> omega
theorem Near.inV {p v : Vec} (h : Near p v) {n : Int} (hn : 0 ≤ n ∧ n ≤ 100) : (goV p v n).In := by
  obtain ⟨h1, h2, -⟩ := h.go hn
  exact ⟨by omega, by omega⟩
theorem Near.inP {p v : Vec} (h : Near p v) : p.In := by
  have := h.x
  have := h.y
  exact ⟨by omega, by omega⟩
theorem Near.short {p v : Vec} (h : Near p v) {n : Int} (hn : 0 ≤ n ∧ n ≤ 100) : shortB p (goV p v n) = true := by
  obtain ⟨-, -, h1, h2⟩ := h.go hn
  unfold shortB
  rw [goV_x, goV_y]
  exact decide_eq_true (by omega)
theorem Near.short0 {p v : Vec} (h : Near p v) : shortB p p = true := by
  have := h.short (n := 0) (by omega)
  rwa [goV_0] at this
section
variable {b : Body} {p v : Vec} (hb : b.ok = true) (h : Near p v)
include hb h
theorem Near.meets {n : Int} (hn : 0 ≤ n ∧ n ≤ 100) : meetsB b p (goV p v n) = (whereP b p (goV p v n)).2 := meets_eq hb h.inP (h.inV hn) (h.short hn)
theorem Near.part {n : Int} (hn : 0 ≤ n ∧ n ≤ 100) : partE b p (goV p v n) = match !meetsB b p (goV p v n) with | true => (0, 6) | false => ((partW (whereP b p (goV p v n)).1 : Int), 0) := by
  rw [h.meets hb hn]
  exact part_val hb h.inP (h.inV hn) (h.short hn)
theorem Near.part_meets {n i : Int} (hn : 0 < n ∧ n ≤ 100) (hi : 0 ≤ i ∧ i ≤ n) : meetsB b p (goV p v i) = true ↔ meetsB b p (goV p v n) = true ∧ (whereP b p (goV p v n)).1.le i n := by
  rw [h.meets hb ⟨by omega, by omega⟩, h.meets hb ⟨by omega, by omega⟩]
  exact Go.Proofs.Ytcbpajkgmpibgaa.part_meets hb hn.1 hi.1 hi.2
theorem Near.point : b.hasB p = meetsB b p p := by
  have := h.meets hb (n := 0) (by omega)
  rw [goV_0] at this
  rw [this, has_point hb]
end
/-- The law, in plain words: 64 steps. -/
theorem parts_step {b : Body} {p v : Vec} (hb : b.ok = true) (h : Near p v) (hm : meetsB b p (goV p v 64) = true) {i : Nat} (hi : i ≤ 64) : ((partW (whereP b p (goV p v 64)).1 : Int) < i * 1024 → meetsB b p (goV p v i) = true) ∧ ((i : Int) * 1024 < partW (whereP b p (goV p v 64)).1 → meetsB b p (goV p v i) = false) := by
  have hm' := hm
  rw [h.meets hb (by omega)] at hm'
  obtain ⟨wm, ws⟩ := where_pos hm'
  have pm := h.part_meets hb (n := 64) (i := i) (by omega) (by omega)
  generalize (whereP b p (goV p v 64)).1 = w at *
  constructor
  · intro hlt
    rw [pm]
    refine ⟨hm, Plc.le_mono wm (by decide) (by decide) (Plc.lt_le (partW_ge ws (by omega))) ?_⟩
    omega
  · intro hlt
    cases hc : meetsB b p (goV p v i) with
    | false => rfl
    | true =>
      obtain ⟨-, hle⟩ := pm.1 hc
      have hlt' := Plc.le_lt (a' := (partW w : Int)) (b' := 65536) wm (by decide) (by decide) hle (by omega)
      have := partW_lt ws wm (i := partW w - 1) (w := w) (by omega)
      rw [show ((partW w - 1 : Nat) : Int) + 1 = partW w by omega] at this
      exact absurd hlt' this
theorem parts_end {b : Body} {p v : Vec} (hb : b.ok = true) (h : Near p v) (hm : meetsB b p (goV p v 64) = true) : b.hasB p = (decide ((partW (whereP b p (goV p v 64)).1 : Int) = 0) && meetsB b p p) := by
  rw [h.point hb]
  cases hc : meetsB b p p with
  | false => simp
  | true =>
    have hm' := hm
    rw [h.meets hb (by omega)] at hm'
    obtain ⟨wm, ws⟩ := where_pos hm'
    have pm := h.part_meets hb (n := 64) (i := 0) (by omega) (by omega)
    rw [goV_0] at pm
    have hle := (pm.1 hc).2
    have h0 : partW (whereP b p (goV p v 64)).1 = 0 := by
      rcases Nat.eq_zero_or_pos (partW (whereP b p (goV p v 64)).1) with e | e
      · exact e
      · exact absurd (Plc.le_lt (a' := 1) (b' := 65536) wm (by decide) (by decide) hle (by decide)) (partW_lt ws wm e)
    rw [h0]
    rfl
def partsCut (b : Body) (p v : Vec) : Cut := ⟨Nat, fun i => i ≤ 65,
  fun i => ⟨[sl 11 (.p 2 0), sl 12 (.p 3 0), sl 14 (.p 5 0), sl 15 (.v (.int .i64 (partW (whereP b p (goV p v 64)).1))), sl 17 (.v (.int .i64 i))], [(2, .lay b.cells 36), (3, .lay p.cells 28), (5, .lay v.cells 28)], 6, 0, [], []⟩, fun i => 65 - i⟩
set_option maxHeartbeats 20000000 in
set_option maxRecDepth 8000 in
theorem parts_walk (f : Form) (x y dx dy : Int) (hf : f.Ok) (hx : I8 x) (hy : I8 y) (hdx : I8 dx) (hdy : I8 dy) : evFn (C := cx) [conAwake, conMade, conEnds, conPart, conMeets, conAt, conHas] [] 0 ⟨[], [], [11], 0⟩ Try.f6 ((rds5 rdForm (rdI .i8) (rdI .i8) (rdI .i8) (rdI .i8)).enc (f, x, y, dx, dy)) fun v H _ => resOut (.bl true) H v := by
  have hN := near_ends (dx := dx) (dy := dy) hx hy
  have hbo := madeB_ok hf (i := 0) (by decide)
  have hpe := hN.part hbo (n := 64) (by decide)
  refine And.intro ⟨one_al trivial, (by decide : (1 : Int) ≤ 9223372036854775807), one_al hf⟩ ?_
  refine And.intro (⟨by decide, by decide⟩ : (0 : Int) ≤ 0 ∧ (0 : Int) < (madeN 1 : Nat)) ?_
  refine And.intro ⟨hx, hy, hdx, hdy, (⟨by decide, by decide⟩ : (0 : Int) ≤ 64 ∧ (64 : Int) ≤ 100)⟩ ?_
  refine And.intro (fun hc => ?_) (fun hc => ?_)
  · have hc : ((decide ((partE (madeB 0 f) (begV x y) (goV (begV x y) (stepV dx dy) 64)).2 = 0) != meetsB (madeB 0 f) (begV x y) (goV (begV x y) (stepV dx dy) 64)) || (decide (¬ (partE (madeB 0 f) (begV x y) (goV (begV x y) (stepV dx dy) 64)).2 = 0) && (decide (¬ (partE (madeB 0 f) (begV x y) (goV (begV x y) (stepV dx dy) 64)).2 = 6) || decide (¬ (partE (madeB 0 f) (begV x y) (goV (begV x y) (stepV dx dy) 64)).1 = 0)))) = true := hc
    rw [hpe] at hc
    cases hm : meetsB (madeB 0 f) (begV x y) (goV (begV x y) (stepV dx dy) 64) <;> rw [hm] at hc <;> exact (Bool.false_ne_true hc).elim
  clear hc
  refine And.intro (fun hc => ?_) (fun hc => ?_)
  · exact rfl
  have hc : decide (¬ (partE (madeB 0 f) (begV x y) (goV (begV x y) (stepV dx dy) 64)).2 = 0) = false := hc
  have hm : meetsB (madeB 0 f) (begV x y) (goV (begV x y) (stepV dx dy) 64) = true := by
    rw [hpe] at hc
    cases hm : meetsB (madeB 0 f) (begV x y) (goV (begV x y) (stepV dx dy) 64) with
    | true => rfl
    | false => rw [hm] at hc; exact (Bool.false_ne_true hc.symm).elim
  have hp1 : (partE (madeB 0 f) (begV x y) (goV (begV x y) (stepV dx dy) 64)).1 = (partW (whereP (madeB 0 f) (begV x y) (goV (begV x y) (stepV dx dy) 64)).1 : Int) := by rw [hpe, hm]; rfl
  clear hc hpe
  refine Exists.intro (partsCut (madeB 0 f) (begV x y) (stepV dx dy)) ?_
  refine And.intro ?_ ?_
  · refine ⟨(0 : Nat), [], [], trivial, Nat.zero_le _, ?_⟩
    repeat' (first | (refine And.intro ?_ ?_) | (intro _) | exact rfl)
    all_goals exact hp1.symm
  refine fun (i : Nat) (hi : i ≤ 65) => ?_
  refine And.intro (fun hb => ?_) (fun hb => ?_)
  · have hb : (i : Int) ≤ 64 := of_decide_eq_true hb
    obtain ⟨s1, s2⟩ := parts_step hbo hN hm (i := i) (by omega)
    obtain ⟨g1, g2, g3, g4⟩ := hN.go (n := i) (by omega)
    refine And.intro (by unfold I64; omega : I64 (i * (stepV dx dy).x)) ?_
    refine And.intro (by unfold I64; simp only [goV] at g1; omega : I64 ((begV x y).x + i * (stepV dx dy).x)) ?_
    refine And.intro (by unfold I64; omega : I64 (i * (stepV dx dy).y)) ?_
    refine And.intro (by unfold I64; simp only [goV] at g2; omega : I64 ((begV x y).y + i * (stepV dx dy).y)) ?_
    refine And.intro (by unfold I64; omega : I64 ((i : Int) * 1024)) ?_
    refine And.intro (fun _ => (by unfold I64; omega : I64 ((i : Int) * 1024))) ?_
    refine And.intro (fun hd => ?_) (fun hd => ?_)
    · have hd : ((decide ((partW (whereP (madeB 0 f) (begV x y) (goV (begV x y) (stepV dx dy) 64)).1 : Int) < i * 1024) && !meetsB (madeB 0 f) (begV x y) (goV (begV x y) (stepV dx dy) i)) || (decide ((i : Int) * 1024 < partW (whereP (madeB 0 f) (begV x y) (goV (begV x y) (stepV dx dy) 64)).1) && meetsB (madeB 0 f) (begV x y) (goV (begV x y) (stepV dx dy) i))) = true := hd
      simp only [Bool.or_eq_true, Bool.and_eq_true, decide_eq_true_eq, Bool.not_eq_true'] at hd
      rcases hd with ⟨h1, h2⟩ | ⟨h1, h2⟩
      · rw [s1 h1] at h2; cases h2
      · rw [s2 h1] at h2; cases h2
    · clear hd
      refine And.intro (by unfold I64; omega : I64 ((i : Int) + 1)) ?_
      refine ⟨i + 1, [], [], (by show 65 - (i + 1) < 65 - i; omega), (by omega : i + 1 ≤ 65), ?_⟩
      repeat' (first | (refine And.intro ?_ ?_) | (intro _) | exact rfl)
  · clear hb
    refine Eq.trans (a := true) (b := ((madeB 0 f).hasB (begV x y)) == (decide ((partW (whereP (madeB 0 f) (begV x y) (goV (begV x y) (stepV dx dy) 64)).1 : Int) = 0) && meetsB (madeB 0 f) (begV x y) (begV x y))) ?_ rfl
    rw [parts_end hbo hN hm]
    exact (beq_self_eq_true _).symm
end Go.Proofs.Ytcbpajkgmpibgaa
