/- Suspect, Calm. Equal lists. Equal watches. Differ. Mark. Plain facts of check. The examples of the chapter. The contract of awake. -/
import Derived.Test.YtbnoejabpmlmdaaGreatDoorM5
namespace Go.Proofs.YtbnoejabpmlmdaaGreatDoor.Df
open Go.RowKit

def Watch.suspect (w : Watch) : Bool := w.ok && decide (100 ≤ w.points)
def calmBad (w : Watch) (now : Int) : Bool := !w.ok || decide (now < w.since) || !isTick now
def calmN (w : Watch) (now : Int) : Int := (now - w.since).tdiv 32
def calm (w : Watch) (now : Int) : Watch × Int := match calmBad w now with
  | true => (watch0, 2)
  | false => ({ w with points := max 0 (w.points - calmN w now), since := w.since + calmN w now * 32 }, 0)
end Go.Proofs.YtbnoejabpmlmdaaGreatDoor.Df
namespace Go.Proofs.YtbnoejabpmlmdaaGreatDoor.Df
open Go.RowKit

def _root_.Go.Proofs.YtbnoejabpmlmdaaGreatDoor.Fam.same (f g : Fam) : Bool := decide (f.n = g.n ∧ ∀ i, i < f.n → f.g i = g.g i)
theorem same_no {f g : Fam} (h : ¬ f.n = g.n) : f.same g = false := decide_eq_false fun c => h c.1
theorem same_no2 {f g : Fam} {k : Nat} (hk : k < f.n) (h : ¬ f.g k = g.g k) : f.same g = false := decide_eq_false fun c => h (c.2 k hk)
theorem same_yes {f g : Fam} (h : f.n = g.n) (h2 : ∀ i, i < f.n → f.g i = g.g i) : f.same g = true := decide_eq_true ⟨h, h2⟩
def cutInts (f g : Fam) : Cut := ⟨Nat, fun k => k ≤ f.n ∧ ∀ j, j < k → f.g j = g.g j,
  fun k => ⟨[sl 0 (.rs 1 f.n fun i => [.v (.int .i64 (f.g i))]), sl 1 (.rs 1 g.n fun i => [.v (.int .i64 (g.g i))]), sl 12 (.v (.int .i64 f.n)), sl 13 (.v (.int .i64 k))], [], 0, 0, [], []⟩, fun k => f.n - k⟩
def cutFlags (f g : Fam) : Cut := ⟨Nat, fun k => k ≤ f.n ∧ ∀ j, j < k → f.g j = g.g j,
  fun k => ⟨[sl 0 (.rs 1 f.n fun i => [.v (.int .u8 (f.g i))]), sl 1 (.rs 1 g.n fun i => [.v (.int .u8 (g.g i))]), sl 12 (.v (.int .i64 f.n)), sl 13 (.v (.int .i64 k))], [], 0, 0, [], []⟩, fun k => f.n - k⟩
set_option maxHeartbeats 2000000 in
set_option maxRecDepth 8000 in
theorem Flags_walk : ∀ a : Fam × Fam, conj [(a.1.n : Int) ≤ 1000000, (a.2.n : Int) ≤ 1000000] → evFn (C := cx) [] [] 0 ⟨[], [], [4], 0⟩ Tryz.f19 ((rds2 (rdF .u8) (rdF .u8)).enc a) fun v H _ => resOut (.v (.bool (a.1.same a.2))) H v := by
  intro ⟨f, g⟩ ⟨hn, hm⟩
  replace hn : (f.n : Int) ≤ 1000000 := hn
  replace hm : (g.n : Int) ≤ 1000000 := hm
  refine And.intro (fun hb => ?_) (fun hb => ?_)
  · have hb : ¬ (f.n : Int) = g.n := of_decide_eq_true hb
    exact same_no (f := f) (g := g) (by omega)
  have hb : ¬ ¬ (f.n : Int) = g.n := of_decide_eq_false hb
  have he : f.n = g.n := by omega
  refine Exists.intro (cutFlags f g) ?_
  refine And.intro ?_ ?_
  · refine ⟨(0 : Nat), [], [], trivial, ⟨Nat.zero_le _, fun j hj => absurd hj (Nat.not_lt_zero _)⟩, ?_⟩
    repeat' (first | (refine And.intro ?_ ?_) | exact rfl | (intro _))
  refine fun (k : Nat) (hk : k ≤ f.n ∧ ∀ j, j < k → f.g j = g.g j) => ?_
  obtain ⟨hk0, hk1⟩ := hk
  refine And.intro (fun hb => ?_) (fun hb => ?_)
  · have hb : (k : Int) < f.n := of_decide_eq_true hb
    refine And.intro ⟨by omega, hb⟩ ?_
    refine And.intro ⟨by omega, by omega⟩ ?_
    refine And.intro (fun hc => ?_) (fun hc => ?_)
    · have hc : ¬ f.g (k : Int).toNat = g.g (k : Int).toNat := of_decide_eq_true hc
      exact same_no2 (f := f) (g := g) (k := (k : Int).toNat) (by omega) hc
    · have hc : ¬ ¬ f.g (k : Int).toNat = g.g (k : Int).toNat := of_decide_eq_false hc
      refine And.intro ⟨by omega, by omega⟩ ?_
      refine ⟨(k + 1 : Nat), [], [], ?_, ⟨by omega, fun j hj => ?_⟩, ?_⟩
      · show f.n - (k + 1) < f.n - k
        omega
      · by_cases e : j = k
        · subst e
          exact Decidable.not_not.1 hc
        · exact hk1 j (by omega)
      · repeat' (first | (refine And.intro ?_ ?_) | exact rfl | (intro _))
  · have hb : ¬ (k : Int) < f.n := of_decide_eq_false hb
    exact same_yes (f := f) (g := g) he fun j hj => hk1 j (by omega)
noncomputable def conFlags : Con cx := walkCon 19 Tryz.call19 (rds2 (rdF .u8) (rdF .u8)) (fun a => [(a.1.n : Int) ≤ 1000000, (a.2.n : Int) ≤ 1000000]) (fun a => .v (.bool (a.1.same a.2))) (fun _ => ⟨[], [], [4], 0⟩) [] (fun _ => rfl) follows Tryz.func19 (by kernel_rfl) Flags_walk
end Go.Proofs.YtbnoejabpmlmdaaGreatDoor.Df
namespace Go.Proofs.YtbnoejabpmlmdaaGreatDoor.Df
open Go.RowKit

def Watch.same (a b : Watch) : Bool := decide (a.client = b.client) && decide (a.seq = b.seq) && a.times.same b.times && (decide (a.counts0 = b.counts0) && decide (a.counts1 = b.counts1) && decide (a.counts2 = b.counts2) && decide (a.counts3 = b.counts3) && decide (a.counts4 = b.counts4) && decide (a.counts5 = b.counts5) && decide (a.counts6 = b.counts6)) && decide (a.points = b.points) && decide (a.since = b.since)
end Go.Proofs.YtbnoejabpmlmdaaGreatDoor.Df
namespace Go.Proofs.YtbnoejabpmlmdaaGreatDoor.Df
open Go.RowKit

def difB (f g : Fam) (k : Nat) : Bool := decide ((f.n : Int) ≤ k) || decide ((g.n : Int) ≤ k) || decide (¬ f.g (k : Int).toNat = g.g (k : Int).toNat)
def difFrom (f g : Fam) : Nat → Nat → Int
  | 0, _ => -1
  | m + 1, k => if difB f g k then k else difFrom f g m (k + 1)
def dif (f g : Fam) : Int := difFrom f g (max f.n g.n) 0
def difCut (f g : Fam) : Cut := ⟨Nat, fun k => k ≤ max f.n g.n ∧ dif f g = difFrom f g (max f.n g.n - k) k,
  fun k => ⟨[sl 0 (.rs 1 f.n fun i => [.v (.int .u64 (f.g i))]), sl 1 (.rs 1 g.n fun i => [.v (.int .u64 (g.g i))]), sl 10 (.v (.int .i64 (max (f.n : Int) g.n))), sl 11 (.v (.int .i64 k))], [], 0, 0, [], []⟩, fun k => max f.n g.n - k⟩
end Go.Proofs.YtbnoejabpmlmdaaGreatDoor.Df
namespace Go.Proofs.YtbnoejabpmlmdaaGreatDoor.Df
open Go.RowKit

def markBad (w : Watch) (f : Int) : Bool := !w.ok || decide (f < 1) || decide (7 < f)
def mark (w : Watch) (f : Int) : Watch × Int := match markBad w f with
  | true => (watch0, 2)
  | false => (w.mark1 f, 0)
def markCut (w : Watch) (f : Int) : Cut := ⟨Unit, fun _ => True, fun _ => ⟨[sl 1 (.il .u8 f), sl 2 (.p 0 0), sl 4 (.p 1 0)], [(0, .lay (w.own 2 2) 63), (1, .lay zeroW 63), (2, .lst 2 1 w.times.n (famC w.times.g) 3)], 3, 0, [], []⟩, fun _ => 0⟩
end Go.Proofs.YtbnoejabpmlmdaaGreatDoor.Df
namespace Go.Proofs.YtbnoejabpmlmdaaGreatDoor.Df
open Go.RowKit

structure Watch.Ok (w : Watch) : Prop where
  c0 : 1 ≤ w.client
  c1 : w.client ≤ 8
  n : w.times.n ≤ 40
  s : ∀ a b, a ≤ b → b < w.times.n → w.times.g a ≤ w.times.g b
  f : w.Fit
  t : isTick w.since = true
  r : ∀ i, i < w.times.n → isTick (w.times.g i) = true
theorem isTick_of {n : Int} (h : 0 ≤ n ∧ n ≤ 1073741824) : isTick n = true := by simpa [isTick] using h
theorem Watch.Ok.of {w : Watch} (h : w.ok = true) : w.Ok := by
  obtain ⟨h1, h2, h3⟩ := okW h
  have h9 := h
  simp only [Watch.ok, Bool.and_eq_true, Bool.or_eq_true, decide_eq_true_eq] at h9
  obtain ⟨⟨⟨⟨⟨⟨⟨⟨⟨⟨⟨⟨⟨⟨c0, c1⟩, -⟩, -⟩, -⟩, -⟩, t⟩, r⟩, -⟩, -⟩, -⟩, -⟩, -⟩, -⟩, -⟩ := h9
  refine ⟨c0, c1, h1, fun a b hab hb => sorted_le h2 hab hb, h3, t, fun i hi => ?_⟩
  rcases r with r | ⟨r1, r2⟩
  · omega
  · have a1 := tickOf r1
    have a2 := tickOf r2
    have b1 := sorted_le h2 (Nat.zero_le i) hi
    have b2 := sorted_le h2 (show i ≤ ((w.times.n : Int) - 1).toNat by omega) (by omega)
    exact isTick_of ⟨by omega, by omega⟩
theorem Watch.Ok.to {w : Watch} (h : w.Ok) : w.ok = true := by
  have hs : w.times.sorted = true := by
    unfold Fam.sorted
    rw [decide_eq_true_eq]
    intro i hi
    exact h.s i (i + 1) (by omega) (by omega)
  have h1 := h.c0
  have h2 := h.c1
  have h3 := h.n
  obtain ⟨c0, c1, c2, c3, c4, c5, c6, p0, p1⟩ := h.f
  simp only [Watch.ok, Bool.and_eq_true, Bool.or_eq_true, decide_eq_true_eq]
  refine ⟨⟨⟨⟨⟨⟨⟨⟨⟨⟨⟨⟨⟨⟨h1, h2⟩, by omega⟩, hs⟩, p0⟩, p1⟩, h.t⟩, ?_⟩, c0⟩, c1⟩, c2⟩, c3⟩, c4⟩, c5⟩, c6⟩
  by_cases e : (w.times.n : Int) ≤ 0
  · exact .inl e
  · exact .inr ⟨h.r _ (by omega), h.r _ (by omega)⟩

/-! ### What is kept -/
theorem cnt_mono (g : Nat → Int) (c : Int) {a b : Nat} (h : a ≤ b) : cntT g c a ≤ cntT g c b := by
  induction b with
  | zero => rw [Nat.le_zero.1 h]; exact Nat.le_refl _
  | succ b ih =>
    by_cases e : a = b + 1
    · rw [e]; exact Nat.le_refl _
    · have := ih (by omega)
      simp only [cntT]
      omega
theorem cnt_upto {g : Nat → Int} {c : Int} {i : Nat} : ∀ {k : Nat}, (∀ j, i ≤ j → j < k → c < g j) → cntT g c k ≤ i
  | 0, _ => Nat.zero_le _
  | k + 1, h => by
    by_cases e : i ≤ k
    · have h1 := h k e (by omega)
      have h2 : cntT g c k ≤ i := cnt_upto fun j a b => h j a (by omega)
      simp only [cntT]
      rw [if_neg (by omega)]
      omega
    · exact Nat.le_trans (cnt_le g c (k + 1)) (by omega)
theorem kept_old {f : Fam} (h : ∀ a b, a ≤ b → b < f.n → f.g a ≤ f.g b) {c : Int} {i : Nat} (hi : i < cntT f.g c f.n) : f.g i ≤ c := by
  by_cases e : f.g i ≤ c
  · exact e
  · exfalso
    have := cnt_upto (g := f.g) (c := c) (i := i) (k := f.n) fun j a b => by have := h i j a b; omega
    omega
theorem sorted_of {f : Fam} (h : ∀ a b, a ≤ b → b < f.n → f.g a ≤ f.g b) : f.sorted = true := by
  unfold Fam.sorted
  rw [decide_eq_true_eq]
  intro i hi
  exact h i (i + 1) (by omega) (by omega)
theorem kept_new {f : Fam} (h : ∀ a b, a ≤ b → b < f.n → f.g a ≤ f.g b) {c : Int} {i : Nat} (h1 : cntT f.g c f.n ≤ i) (h2 : i < f.n) : c < f.g i := by
  by_cases e : f.g i ≤ c
  · exfalso
    have := cnt_all (sorted_of h) h2 e (i + 1) (Nat.le_refl _)
    have := cnt_mono f.g c (show i + 1 ≤ f.n by omega)
    omega
  · omega
theorem kept_n (f : Fam) (c : Int) : (f.kept c).n = f.n - cntT f.g c f.n := rfl
theorem kept_g (f : Fam) (c : Int) (i : Nat) : (f.kept c).g i = f.g (cntT f.g c f.n + i) := rfl

theorem Watch.Ok.fresh {w : Watch} (h : w.Ok) (now : Int) : (w.fresh now).Ok := by
  have hc := cnt_le w.times.g (now - 32) w.times.n
  have hn := h.n
  refine ⟨h.c0, h.c1, ?_, fun a b hab hb => ?_, ⟨h.f.c0, h.f.c1, h.f.c2, h.f.c3, h.f.c4, h.f.c5, h.f.c6, h.f.p0, h.f.p1⟩, h.t, fun i hi => ?_⟩
  · show w.times.n - cntT w.times.g (now - 32) w.times.n ≤ 40
    omega
  · have hb : b < w.times.n - cntT w.times.g (now - 32) w.times.n := hb
    exact h.s _ _ (by omega) (by omega)
  · have hi : i < w.times.n - cntT w.times.g (now - 32) w.times.n := hi
    exact h.r _ (by omega)
theorem Watch.Ok.mark1 {w : Watch} (h : w.Ok) (f : Int) : (w.mark1 f).Ok := ⟨h.c0, h.c1, h.n, h.s, h.f.mark1 f, h.t, h.r⟩
theorem Watch.Ok.marks {w : Watch} (h : w.Ok) (l : Fam) : ∀ k, (w.marks l k).Ok
  | 0 => h
  | k + 1 => (Watch.Ok.marks h l k).mark1 _
theorem marks_same (w : Watch) (l : Fam) : ∀ k, (w.marks l k).client = w.client ∧ (w.marks l k).seq = w.seq ∧ (w.marks l k).times = w.times ∧ (w.marks l k).since = w.since
  | 0 => ⟨rfl, rfl, rfl, rfl⟩
  | k + 1 => marks_same w l k
theorem push_g (f : Fam) (x : Int) (i : Nat) : (f.push x).g i = if i = f.n then x else f.g i := rfl
theorem Watch.Ok.took {w : Watch} (h : w.Ok) {now : Int} {i : Input} (hn : isTick now = true) (hl : ∀ j, j < w.times.n → w.times.g j ≤ now) (hm : (w.fresh now).times.n < 40) : (w.took now i).Ok := by
  have hF := h.fresh now
  have hl2 : ∀ j, j < (w.fresh now).times.n → (w.fresh now).times.g j ≤ now := fun j hj => by
    have hj : j < w.times.n - cntT w.times.g (now - 32) w.times.n := hj
    exact hl _ (by omega)
  refine ⟨hF.c0, hF.c1, hm, fun a b hab hb => ?_, ⟨hF.f.c0, hF.f.c1, hF.f.c2, hF.f.c3, hF.f.c4, hF.f.c5, hF.f.c6, hF.f.p0, hF.f.p1⟩, hF.t, fun j hj => ?_⟩
  · have hb : b < (w.fresh now).times.n + 1 := hb
    show ((w.fresh now).times.push now).g a ≤ ((w.fresh now).times.push now).g b
    simp only [push_g]
    by_cases e : b = (w.fresh now).times.n
    · rw [if_pos e]
      by_cases e2 : a = (w.fresh now).times.n
      · rw [if_pos e2]; exact Int.le_refl _
      · rw [if_neg e2]; exact hl2 a (by omega)
    · rw [if_neg e, if_neg (by omega)]
      exact hF.s a b hab (by omega)
  · have hj : j < (w.fresh now).times.n + 1 := hj
    show isTick (((w.fresh now).times.push now).g j) = true
    simp only [push_g]
    split
    · exact hn
    · exact hF.r j (by omega)
theorem late_of {w : Watch} {now : Int} (h : ∀ j, j < w.times.n → w.times.g j ≤ now) : w.late now = false := by
  unfold Watch.late
  by_cases e : 0 < (w.times.n : Int)
  · have := h ((w.times.n : Int) - 1).toNat (by omega)
    simp only [Bool.and_eq_false_iff, decide_eq_false_iff_not]
    exact .inr (by omega)
  · simp only [Bool.and_eq_false_iff, decide_eq_false_iff_not]
    exact .inl e
theorem good_of {w : Watch} {now : Int} {i : Input} (h : w.Ok) (hc : i.client = w.client) (hn : isTick now = true) (hl : ∀ j, j < w.times.n → w.times.g j ≤ now) : chkBad w now i = false := by
  unfold chkBad
  rw [h.to, hn, late_of hl, decide_eq_false (by rw [hc]; exact fun h => h rfl)]
  rfl

/-! ### The state of Bounds -/
structure BInv (w : Watch) (now : Int) (T S : Fam) : Prop where
  ok : w.Ok
  cl : w.client = 2
  nt : 0 ≤ now
  le : ∀ i, i < w.times.n → w.times.g i ≤ now
  m : w.times.n ≤ T.n
  suf : ∀ j, j < w.times.n → w.times.g j = T.g (T.n - w.times.n + j)
  old : ∀ j, j < T.n - w.times.n → T.g j ≤ now - 32
  sn : S.n = T.n
  sl : 0 < S.n → S.g (S.n - 1) = w.seq
/-- What may come of a step. -/
inductive BStep (w : Watch) (now : Int) (i : Input) (T S : Fam) : Res → Prop
  | no {r : Res} (e : r.e = 0) (ok : r.ok = false) (hv : r.w.ok = true) (hs : r.w.seq = w.seq) (hl : r.l.n = 1) (hx : r.i = input0) (hc : r.w.client = 2) (hsi : r.w.since = w.since) (hi : BInv r.w now T S) : BStep w now i T S r
  | yes {r : Res} (e : r.e = 0) (ok : r.ok = true) (hv : r.w.ok = true) (h1 : r.i.seq = i.seq) (h2 : r.w.seq = i.seq) (h3 : 0 < S.n → S.g (S.n - 1) < i.seq) (h4 : (-64 ≤ r.i.moveX ∧ r.i.moveX ≤ 64) ∧ -64 ≤ r.i.moveY ∧ r.i.moveY ≤ 64) (h5 : (-8192 ≤ r.i.aimX ∧ r.i.aimX ≤ 8192) ∧ -8192 ≤ r.i.aimY ∧ r.i.aimY ≤ 8192)
      (h6 : now - 16 ≤ i.tick ∧ i.tick ≤ now + 8) (h7 : r.i.fire = true → (now - 16 ≤ r.i.seen ∧ r.i.seen ≤ now) ∧ 0 ≤ r.i.part ∧ r.i.part ≤ 15) (h8 : 40 ≤ T.n → (T.push now).g (T.n - 40) ≤ now - 32) (hi : BInv r.w now (T.push now) (S.push i.seq)) : BStep w now i T S r
theorem refusal_zero {w : Watch} {now : Int} {i : Input} (h : refusal w now i = 0) : w.seq < i.seq ∧ (now - 16 ≤ i.tick ∧ i.tick ≤ now + 8) ∧ (w.fresh now).times.n < 40 := by
  unfold refusal at h
  split at h
  · cases h
  · split at h
    · cases h
    · split at h
      · cases h
      · omega
theorem beyond_not {v : Vec} {m : Int} (h : beyond v m = false) : (-m ≤ v.x ∧ v.x ≤ m) ∧ -m ≤ v.y ∧ v.y ≤ m := by
  unfold beyond at h
  simp only [Bool.or_eq_false_iff, decide_eq_false_iff_not] at h
  omega
theorem corr_move {i : Input} (hin : i.In) (now : Int) : (-64 ≤ (corr i now 3).moveX ∧ (corr i now 3).moveX ≤ 64) ∧ -64 ≤ (corr i now 3).moveY ∧ (corr i now 3).moveY ≤ 64 := by
  have h1 : (corr i now 3).moveX = (corr1 i).moveX ∧ (corr i now 3).moveY = (corr1 i).moveY := by
    show (corr3 i now).moveX = _ ∧ (corr3 i now).moveY = _
    unfold corr3 corr2
    constructor <;> (split <;> split <;> rfl)
  rw [h1.1, h1.2]
  cases hb : bMove i with
  | true =>
    have := lim_ok (v := ⟨i.moveX, i.moveY⟩) (m := 64) hin.1.1 hin.1.2 (by omega)
    unfold corr1
    rw [hb]
    exact ⟨⟨this.1, this.2.1⟩, this.2.2.1, this.2.2.2⟩
  | false =>
    unfold corr1
    rw [hb]
    exact beyond_not hb
theorem corr_aim {i : Input} (hin : i.In) (now : Int) : (-8192 ≤ (corr i now 3).aimX ∧ (corr i now 3).aimX ≤ 8192) ∧ -8192 ≤ (corr i now 3).aimY ∧ (corr i now 3).aimY ≤ 8192 := by
  have h1 : (corr i now 3).aimX = (corr2 i).aimX ∧ (corr i now 3).aimY = (corr2 i).aimY := by
    show (corr3 i now).aimX = _ ∧ (corr3 i now).aimY = _
    unfold corr3
    constructor <;> (split <;> rfl)
  rw [h1.1, h1.2]
  cases hb : bAim i with
  | true =>
    have := lim_ok (v := ⟨i.aimX, i.aimY⟩) (m := 8192) hin.2.1 hin.2.2 (by omega)
    unfold corr2
    rw [hb]
    exact ⟨⟨this.1, this.2.1⟩, this.2.2.1, this.2.2.2⟩
  | false =>
    unfold corr2
    rw [hb]
    have := corr1_same i
    rw [this.2.2.2.2.1, this.2.2.2.2.2.1]
    exact beyond_not hb
theorem corr_seq (i : Input) (now : Int) : (corr i now 3).seq = i.seq := by
  show (corr3 i now).seq = _
  have := (corr2_same i).2.1
  unfold corr3
  split <;> exact this
theorem corr_fire {i : Input} {now : Int} (h0 : 0 ≤ now) (h : (corr i now 3).fire = true) : (now - 16 ≤ (corr i now 3).seen ∧ (corr i now 3).seen ≤ now) ∧ 0 ≤ (corr i now 3).part ∧ (corr i now 3).part ≤ 15 := by
  have hc := corr2_same i
  have h : (corr3 i now).fire = true := h
  show (now - 16 ≤ (corr3 i now).seen ∧ (corr3 i now).seen ≤ now) ∧ 0 ≤ (corr3 i now).part ∧ (corr3 i now).part ≤ 15
  cases hs : shotOk i now with
  | true =>
    have e : corr3 i now = corr2 i := by unfold corr3; rw [hs]
    rw [e] at h ⊢
    rw [hc.2.2.2.1] at h
    rw [hc.2.2.2.2.1, hc.2.2.2.2.2]
    unfold shotOk at hs
    rw [h] at hs
    simp only [Bool.not_true, Bool.false_or, Bool.and_eq_true, Bool.or_eq_true, decide_eq_true_eq] at hs
    omega
  | false =>
    have e : (corr3 i now).fire = false := by unfold corr3; rw [hs]
    rw [e] at h
    cases h
theorem bounds_step {w : Watch} {was now : Int} {T S : Fam} {i : Input} (h : BInv w was T S) (hn : was ≤ now) (hn2 : now ≤ 1000000) (hc : i.client = 2) (hin : i.In) : BStep w now i T S (check w now i) := by
  have ht : isTick now = true := isTick_of ⟨by have := h.nt; omega, by omega⟩
  have hle : ∀ j, j < w.times.n → w.times.g j ≤ now := fun j hj => Int.le_trans (h.le j hj) hn
  have hg := good_of h.ok (by rw [hc, h.cl] : i.client = w.client) ht hle
  have hF := h.ok.fresh now
  have hcn := cnt_le w.times.g (now - 32) w.times.n
  have fn : (w.fresh now).times.n = w.times.n - cntT w.times.g (now - 32) w.times.n := rfl
  have fg : ∀ j, (w.fresh now).times.g j = w.times.g (cntT w.times.g (now - 32) w.times.n + j) := fun j => rfl
  have hm := h.m
  have hi : BInv (w.fresh now) now T S := by
    refine ⟨hF, h.cl, by have := h.nt; omega, fun j hj => ?_, ?_, fun j hj => ?_, fun j hj => ?_, h.sn, h.sl⟩
    · rw [fn] at hj; exact hle _ (by omega)
    · rw [fn]; omega
    · rw [fn] at hj ⊢
      rw [fg, h.suf _ (by omega)]
      exact congrArg T.g (by omega)
    · rw [fn] at hj
      by_cases e : j < T.n - w.times.n
      · have := h.old j e; omega
      · have := kept_old h.ok.s (c := now - 32) (i := j - (T.n - w.times.n)) (by omega)
        rw [h.suf _ (by omega)] at this
        rwa [show T.n - w.times.n + (j - (T.n - w.times.n)) = j by omega] at this
  by_cases hr : refusal w now i = 0
  · rw [check_taken hg hr]
    obtain ⟨r1, r2, r3⟩ := refusal_zero hr
    have hT := h.ok.took (i := i) ht hle r3
    have hM := hT.marks (flagsOf i now 3) (flagsOf i now 3).n
    have hS := marks_same (w.took now i) (flagsOf i now 3) (flagsOf i now 3).n
    refine .yes rfl rfl hM.to (corr_seq i now) hS.2.1 (fun hp => by rw [h.sl hp]; exact r1) (corr_move hin now) (corr_aim hin now) r2 (fun hf => corr_fire (by have := h.nt; omega) hf) (fun h40 => ?_) ?_
    · rw [push_g, if_neg (by omega)]
      exact hi.old _ (by omega)
    · generalize (w.took now i).marks (flagsOf i now 3) (flagsOf i now 3).n = z at hM hS ⊢
      obtain ⟨s1, s2, s3, s4⟩ := hS
      have zn : z.times.n = (w.fresh now).times.n + 1 := by rw [s3]; rfl
      have zg : ∀ j, z.times.g j = if j = (w.fresh now).times.n then now else (w.fresh now).times.g j := fun j => by rw [s3]; rfl
      have him := hi.m
      refine ⟨hM, by rw [s1]; exact h.cl, hi.nt, fun j hj => ?_, ?_, fun j hj => ?_, fun j hj => ?_, ?_, fun _ => ?_⟩
      · replace hj : j < z.times.n := hj
        show z.times.g j ≤ now
        rw [zg]
        split
        · exact Int.le_refl _
        · exact hi.le j (by omega)
      · show z.times.n ≤ T.n + 1
        omega
      · replace hj : j < z.times.n := hj
        show z.times.g j = (T.push now).g (T.n + 1 - z.times.n + j)
        rw [zg]
        rw [push_g]
        by_cases e : j = (w.fresh now).times.n
        · rw [if_pos e, if_pos (by omega)]
        · rw [if_neg e, if_neg (by omega), hi.suf j (by omega)]
          exact congrArg T.g (by omega)
      · have hj : j < T.n + 1 - z.times.n := hj
        show (T.push now).g j ≤ _
        rw [push_g, if_neg (by omega)]
        exact hi.old j (by omega)
      · show S.n + 1 = T.n + 1
        rw [h.sn]
      · show (S.push i.seq).g (S.n + 1 - 1) = z.seq
        rw [push_g, if_pos (by omega), s2]
        rfl
  · rw [check_refused hg rfl hr]
    have hM := hF.mark1 (refusal w now i)
    exact .no rfl rfl hM.to rfl rfl rfl h.cl rfl ⟨hM, hi.cl, hi.nt, hi.le, hi.m, hi.suf, hi.old, hi.sn, hi.sl⟩
end Go.Proofs.YtbnoejabpmlmdaaGreatDoor.Df
namespace Go.Proofs.YtbnoejabpmlmdaaGreatDoor.Df
open Go.RowKit

def vbeyond (v : Vec) (m : Int) : Bool := decide (v.x < -m) || decide (m < v.x) || decide (v.y < -m) || decide (m < v.y)
/-- The watch of the example after k inputs of the loop. -/
structure AInv (k : Nat) (w : Watch) : Prop where
  ok : w.Ok
  cl : w.client = 3
  h : ∀ i, i < w.times.n → w.times.g i = 100
  a : w.seq ≤ 8 + k
  n : w.times.n = min (1 + k) 40
theorem aw_cnt {w : Watch} {c : Int} (h : ∀ i, i < w.times.n → w.times.g i = 100) (hc : c < 100) : cntT w.times.g c w.times.n = 0 := cnt_none fun j hj => by rw [h j hj]; exact hc
def awIn (k : Nat) : Input := ⟨3, 9 + k, 100, 0, 0, false, 0, 0, 0, 0⟩
theorem fl_in (k : Nat) : (flagsOf (awIn k) 100 3) = fl0 := rfl
theorem aw_step {k : Nat} {w : Watch} (h : AInv k w) (hk : k < 40) : (check w 100 (awIn k)).e = 0 ∧ ((check w 100 (awIn k)).ok = true ∧ k < 39 ∧ (check w 100 (awIn k)).l.n = 0 ∨ (check w 100 (awIn k)).ok = false ∧ k = 39 ∧ (check w 100 (awIn k)).l = ⟨1, fun _ => 3⟩) ∧ AInv (k + 1) (check w 100 (awIn k)).w := by
  have hle : ∀ j, j < w.times.n → w.times.g j ≤ 100 := fun j hj => by rw [h.h j hj]; exact Int.le_refl _
  have ht : isTick 100 = true := by decide
  have hg := good_of (i := awIn k) h.ok (by rw [h.cl]; rfl) ht hle
  have hc := aw_cnt (c := 100 - 32) h.h (by omega)
  have fn : (w.fresh 100).times.n = w.times.n := by
    show w.times.n - cntT w.times.g (100 - 32) w.times.n = w.times.n
    rw [hc]; rfl
  have fg : ∀ j, (w.fresh 100).times.g j = w.times.g j := fun j => by
    show w.times.g (cntT w.times.g (100 - 32) w.times.n + j) = _
    rw [hc, Nat.zero_add]
  have ha := h.a
  have hn := h.n
  have h1 : ¬ (awIn k).seq ≤ w.seq := by show ¬ (9 + (k : Int)) ≤ w.seq; omega
  have h2 : ¬ ((awIn k).tick < 100 - 16 ∨ 100 + 8 < (awIn k).tick) := by show ¬ ((100 : Int) < 100 - 16 ∨ (100 : Int) + 8 < 100); omega
  by_cases e : k < 39
  · have hr : refusal w 100 (awIn k) = 0 := by
      unfold refusal
      rw [if_neg h1, if_neg h2, if_neg (by rw [fn]; omega)]
    rw [check_taken hg hr]
    have hT := h.ok.took (i := awIn k) ht hle (by rw [fn]; omega)
    refine ⟨rfl, .inl ⟨rfl, e, rfl⟩, hT, h.cl, fun i hi => ?_, ?_, ?_⟩
    · have hi : i < (w.fresh 100).times.n + 1 := hi
      show ((w.fresh 100).times.push 100).g i = 100
      rw [push_g]
      split
      · rfl
      · rw [fg]; exact h.h i (by omega)
    · show 9 + (k : Int) ≤ _
      omega
    · show (w.fresh 100).times.n + 1 = _
      omega
  · have hr : refusal w 100 (awIn k) = 3 := by
      unfold refusal
      rw [if_neg h1, if_neg h2, if_pos (by rw [fn]; omega)]
    rw [check_refused hg hr (by decide)]
    refine ⟨rfl, .inr ⟨rfl, by omega, rfl⟩, (h.ok.fresh 100).mark1 3, h.cl, fun i hi => ?_, ?_, ?_⟩
    · have hi : i < (w.fresh 100).times.n := hi
      show (w.fresh 100).times.g i = 100
      rw [fg]; exact h.h i (by omega)
    · show w.seq ≤ _
      omega
    · show (w.fresh 100).times.n = _
      omega
def awLast : Input := ⟨3, 60, 132, 0, 0, false, 0, 0, 0, 0⟩
theorem aw_last {w : Watch} (h : AInv 40 w) : (check w 132 awLast).e = 0 ∧ (check w 132 awLast).ok = true := by
  have hle : ∀ j, j < w.times.n → w.times.g j ≤ 132 := fun j hj => by rw [h.h j hj]; decide
  have ht : isTick 132 = true := by decide
  have hg := good_of (i := awLast) h.ok (by rw [h.cl]; rfl) ht hle
  have ha := h.a
  have hn := h.n
  have hc : cntT w.times.g (132 - 32) w.times.n = w.times.n := by
    by_cases e : w.times.n = 0
    · rw [e]; rfl
    · exact cnt_all (sorted_of h.ok.s) (j := w.times.n - 1) (by omega) (by rw [h.h _ (by omega)]; decide) _ (by omega)
  have hr : refusal w 132 awLast = 0 := by
    have h1 : ¬ awLast.seq ≤ w.seq := by show ¬ (60 : Int) ≤ w.seq; omega
    have h2 : ¬ (awLast.tick < 132 - 16 ∨ 132 + 8 < awLast.tick) := by decide
    have h3 : ¬ (40 : Int) ≤ ((w.fresh 132).times.n : Nat) := by
      show ¬ (40 : Int) ≤ ((w.times.n - cntT w.times.g (132 - 32) w.times.n : Nat) : Int)
      rw [hc]; omega
    unfold refusal
    rw [if_neg h1, if_neg h2, if_neg h3]
  rw [check_taken hg hr]
  exact ⟨rfl, rfl⟩
def aw0 : Watch := ⟨3, 7, ⟨0, fun _ => 0⟩, 0, 0, 0, 0, 0, 0, 0, 0, 0⟩
def awI1 : Input := ⟨3, 7, 100, 0, 0, false, 0, 0, 0, 0⟩
def awI2 : Input := ⟨3, 8, 83, 0, 0, false, 0, 0, 0, 0⟩
def awI3 : Input := ⟨3, 8, 100, 128, -64, false, 0, 0, 0, 0⟩
def awR1 : Res := check aw0 100 awI1
def awR2 : Res := check aw0 100 awI2
def awR3 : Res := check aw0 100 awI3
theorem aw_first : awR1.e = 0 ∧ awR1.ok = false ∧ awR1.l.n = 1 ∧ awR1.l.g 0 = 1 := by decide +kernel
theorem aw_second : awR2.e = 0 ∧ awR2.ok = false ∧ awR2.l.n = 1 ∧ awR2.l.g 0 = 2 ∧ awR2.w.points = 2 := by decide +kernel
theorem aw_third : awR3.e = 0 ∧ awR3.ok = true ∧ awR3.l.n = 1 ∧ awR3.l.g 0 = 4 ∧ awR3.w.points = 10 ∧ awR3.i.moveX = 64 ∧ awR3.i.moveY = -32 := by decide +kernel
theorem aw_inv : AInv 0 awR3.w := by
  have h0 : aw0.Ok := Watch.Ok.of (by decide +kernel)
  have e : awR3 = ⟨(aw0.took 100 awI3).marks (flagsOf awI3 100 3) (flagsOf awI3 100 3).n, corr awI3 100 3, flagsOf awI3 100 3, true, 0⟩ := check_taken (by decide +kernel) (by decide +kernel)
  rw [e]
  have hS := marks_same (aw0.took 100 awI3) (flagsOf awI3 100 3) (flagsOf awI3 100 3).n
  have hM := (h0.took (now := 100) (i := awI3) (by decide) (fun j hj => absurd hj (Nat.not_lt_zero _)) (by decide)).marks (flagsOf awI3 100 3) (flagsOf awI3 100 3).n
  generalize (aw0.took 100 awI3).marks (flagsOf awI3 100 3) (flagsOf awI3 100 3).n = z at hM hS
  obtain ⟨s1, s2, s3, s4⟩ := hS
  refine ⟨hM, s1, fun i hi => ?_, ?_, ?_⟩
  · simp only at hi ⊢
    rw [s3] at hi ⊢
    have hi : i < 1 := hi
    obtain rfl : i = 0 := by omega
    rfl
  · simp only; rw [s2]; decide
  · simp only; rw [s3]; rfl
end Go.Proofs.YtbnoejabpmlmdaaGreatDoor.Df
namespace Go.Proofs.YtbnoejabpmlmdaaGreatDoor.Df
open Go.RowKit

def awInvC : Cut := ⟨Nat × Watch, fun x => AInv x.1 x.2 ∧ x.1 ≤ 40, fun x => ⟨[sl 12 (.p 0 0), sl 106 (.v (.int .i64 x.1))], [(0, .lay x.2.cells 63)], 1, 0, [], []⟩, fun x => 40 - x.1⟩
instance {i : Input} : Decidable i.In := inferInstanceAs (Decidable (((_ ∧ _) ∧ (_ ∧ _)) ∧ (_ ∧ _) ∧ (_ ∧ _)))
theorem nope {b : Bool} (h : b = false) (k : b = !false) : False := by rw [h] at k; cases k
theorem ne_no {n m : Int} (h : n = m) : decide (¬ n = m) = false := decide_eq_false fun k => k h
theorem flag_no {l f : Fam} {x : Int} (h1 : l.n = 1) (h2 : l.g 0 = x) (h3 : f.n = 1) (h4 : f.g 0 = x) : (!(l.same f)) = false := by
  rw [same_yes (h1.trans h3.symm) fun i hi => by obtain rfl : i = 0 := by omega
                                                 exact h2.trans h4.symm]
  rfl
set_option maxHeartbeats 4000000 in
theorem awake_walk : ∀ a : Unit, conj [] → evFn (C := cx) [conCheck, conFlags] [] 0 ⟨[1005, 1011], [], [8], 0⟩ Tryz.f5 (rds0.enc a) fun v H _ => resOut (.bl true) H v := by
  intro _ _
  obtain ⟨a1, a2, a3, a4⟩ := aw_first
  obtain ⟨b1, b2, b3, b4, b5⟩ := aw_second
  obtain ⟨c1, c2, c3, c4, c5, c6, c7⟩ := aw_third
  have hI := aw_inv
  have one : ((1 : Nat) : Int) ≤ 1000000 := by decide
  refine And.intro ⟨(by decide : (0 : Int) ≤ 1000000), (by decide : Input.In awI1)⟩ ?_
  refine And.intro ⟨(by decide : (0 : Int) ≤ 1000000), (by decide : Input.In awI2)⟩ ?_
  refine And.intro ⟨(by decide : (0 : Int) ≤ 1000000), (by decide : Input.In awI3)⟩ ?_
  refine And.intro (fun _ => ?_) (fun hb => (nope (ne_no a1) hb).elim)
  refine And.intro (fun _ => ?_) (fun hb => (nope (ne_no b1) hb).elim)
  refine And.intro (fun _ => ?_) (fun hb => (nope (ne_no c1) hb).elim)
  refine And.intro (fun _ => ?_) (fun hb => (nope a2 hb).elim)
  refine And.intro (fun _ => ?_) (fun hb => (nope b2 hb).elim)
  refine And.intro (fun _ => ?_) (fun hb => (nope (by rw [c2]; rfl : (!awR3.ok) = false) hb).elim)
  refine And.intro ⟨fun _ _ => trivial, fun i hi => by obtain rfl : i = 0 := Nat.lt_one_iff.1 hi
                                                       trivial, by show ((awR1.l.n : Nat) : Int) ≤ 1000000; rw [a3]; exact one, one⟩ ?_
  refine And.intro (fun _ => ?_) (fun hb => (nope (flag_no a3 a4 rfl rfl) hb).elim)
  refine And.intro ⟨fun _ _ => trivial, fun i hi => by obtain rfl : i = 0 := Nat.lt_one_iff.1 hi
                                                       trivial, by show ((awR2.l.n : Nat) : Int) ≤ 1000000; rw [b3]; exact one, one⟩ ?_
  refine And.intro (fun _ => ?_) (fun hb => (nope (flag_no b3 b4 rfl rfl) hb).elim)
  refine And.intro ⟨fun _ _ => trivial, fun i hi => by obtain rfl : i = 0 := Nat.lt_one_iff.1 hi
                                                       trivial, by show ((awR3.l.n : Nat) : Int) ≤ 1000000; rw [c3]; exact one, one⟩ ?_
  refine And.intro (fun _ => ?_) (fun hb => (nope (flag_no c3 c4 rfl rfl) hb).elim)
  refine And.intro (fun _ => ?_) (fun hb => (nope (ne_no b5) hb).elim)
  refine And.intro (fun _ => ?_) (fun hb => (nope (ne_no c5) hb).elim)
  refine And.intro (fun hb => ?_) (fun _ => ?_)
  · exact (nope (by rw [c6, c7]; rfl : (!(decide (awR3.i.moveX = 64) && decide (awR3.i.moveY = -32))) = false) hb).elim
  refine Exists.intro awInvC ?_
  refine And.intro ?_ ?_
  · refine ⟨((0 : Nat), awR3.w), [(0, 5)], [], trivial, ⟨hI, Nat.zero_le _⟩, ?_⟩
    repeat' (first | (refine And.intro ?_ ?_) | exact rfl | (intro _))
  refine fun (x : Nat × Watch) (hx : AInv x.1 x.2 ∧ x.1 ≤ 40) => ?_
  obtain ⟨k, w⟩ := x
  obtain ⟨hk, hk1⟩ : AInv k w ∧ k ≤ 40 := hx
  have hn := hk.n
  have hwn : (w.times.n : Int) ≤ 1000000 := by omega
  refine And.intro (fun hb => ?_) (fun hb => ?_)
  · have hb : (k : Int) < 40 := of_decide_eq_true hb
    refine And.intro ⟨by omega, by omega⟩ ?_
    refine And.intro ⟨fun _ _ => trivial, hwn, (by decide : Input.In ⟨0, 0, 0, 0, 0, false, 0, 0, 0, 0⟩)⟩ ?_
    obtain ⟨he, hc, hI2⟩ := aw_step hk (by omega)
    refine And.intro (fun _ => ?_) (fun hb => (nope (ne_no he) hb).elim)
    have done : k + 1 ≤ 40 := by omega
    rcases hc with ⟨h1, h2, h3⟩ | ⟨h1, h2, h3⟩
    · refine And.intro (fun _ => ?_) (fun hb => (nope (by rw [h1, decide_eq_true (by omega : (k : Int) < 39)]; rfl : ((check w 100 (awIn k)).ok != decide ((k : Int) < 39)) = false) hb).elim)
      refine And.intro (fun _ => ?_) (fun hb => ?_)
      rotate_left
      · have hb : (check w 100 (awIn k)).ok = !true := hb
        rw [h1] at hb
        cases hb
      refine And.intro (fun _ => ?_) (fun hb => (nope (ne_no (by rw [h3]; rfl : (((check w 100 (awIn k)).l.n : Nat) : Int) = 0)) hb).elim)
      refine And.intro (fun hb => ?_) (fun _ => ?_)
      · have hb : (!(check w 100 (awIn k)).ok) = true := hb
        rw [h1] at hb
        cases hb
      refine And.intro ⟨by omega, by omega⟩ ?_
      refine ⟨(k + 1, (check w 100 (awIn k)).w), [], [], (by show 40 - (k + 1) < 40 - k; omega), ⟨hI2, done⟩, ?_⟩
      repeat' (first | (refine And.intro ?_ ?_) | exact rfl | (intro _))
    · refine And.intro (fun _ => ?_) (fun hb => (nope (by rw [h1, decide_eq_false (by omega : ¬ (k : Int) < 39)]; rfl : ((check w 100 (awIn k)).ok != decide ((k : Int) < 39)) = false) hb).elim)
      refine And.intro (fun hb => ?_) (fun _ => ?_)
      · have hb : (check w 100 (awIn k)).ok = true := hb
        rw [h1] at hb
        cases hb
      refine And.intro (fun _ => ?_) (fun hb => ?_)
      rotate_left
      · have hb : (!(check w 100 (awIn k)).ok) = !true := hb
        rw [h1] at hb
        cases hb
      refine And.intro ⟨fun _ _ => trivial, fun i hi => by obtain rfl : i = 0 := Nat.lt_one_iff.1 hi
                                                           trivial, by show (((check w 100 (awIn k)).l.n : Nat) : Int) ≤ 1000000; rw [h3]; exact one, one⟩ ?_
      refine And.intro (fun hb => ?_) (fun _ => ?_)
      · have hb : (!((check w 100 (awIn k)).l.same ⟨1, _⟩)) = true := hb
        rw [flag_no (x := 3) (by rw [h3]) (by rw [h3]) rfl rfl] at hb
        cases hb
      refine And.intro ⟨by omega, by omega⟩ ?_
      refine ⟨(k + 1, (check w 100 (awIn k)).w), [], [], (by show 40 - (k + 1) < 40 - k; omega), ⟨hI2, done⟩, ?_⟩
      repeat' (first | (refine And.intro ?_ ?_) | exact rfl | (intro _))
  · have hb : ¬ (k : Int) < 40 := of_decide_eq_false hb
    obtain rfl : k = 40 := by omega
    obtain ⟨e1, e2⟩ := aw_last hk
    refine And.intro ⟨fun _ _ => trivial, hwn, (by decide : Input.In awLast)⟩ ?_
    refine Eq.trans ?_ rfl
    show true = (decide ((check w 132 awLast).e = 0) && (check w 132 awLast).ok)
    rw [e1, e2]
    rfl
noncomputable def conAwake : Con cx := walkCon 5 Tryz.call5 rds0 (fun _ => []) (fun _ => .bl true) (fun _ => ⟨[1005, 1011], [], [8], 0⟩) [1005, 1011] (fun _ => rfl) follows Tryz.func5 (by kernel_rfl) awake_walk
end Go.Proofs.YtbnoejabpmlmdaaGreatDoor.Df
