/- Plain facts of check. -/
import Derived.Test.YtinefblphbicaaaDoorH14
namespace Go.Proofs.YtinefblphbicaaaDoor
open Go.RowKit

structure Watch.Ok (w : Watch) : Prop where
  c0 : 1 ≤ w.client
  c1 : w.client ≤ 8
  n : w.times.n ≤ 40
  s : ∀ a b, a ≤ b → b < w.times.n → w.times.g a ≤ w.times.g b
  f : w.Fit
  t : isTick w.since = true
  r : ∀ i, i < w.times.n → isTick (w.times.g i) = true
theorem isTick_of {n : Int} (h : 0 ≤ n ∧ n ≤ 1073741824) : isTick n = true := by simpa [isTick] using h
theorem Watch.Ok.of {w : Watch} (h : w.ok = true) : w.Ok := by
  obtain ⟨h1, h2, h3⟩ := okW h
  have h9 := h
  simp only [Watch.ok, Bool.and_eq_true, Bool.or_eq_true, decide_eq_true_eq] at h9
  obtain ⟨⟨⟨⟨⟨⟨⟨⟨⟨⟨⟨⟨⟨⟨c0, c1⟩, -⟩, -⟩, -⟩, -⟩, t⟩, r⟩, -⟩, -⟩, -⟩, -⟩, -⟩, -⟩, -⟩ := h9
  refine ⟨c0, c1, h1, fun a b hab hb => sorted_le h2 hab hb, h3, t, fun i hi => ?_⟩
  rcases r with r | ⟨r1, r2⟩
  · omega
  · have a1 := tickOf r1
    have a2 := tickOf r2
    have b1 := sorted_le h2 (Nat.zero_le i) hi
    have b2 := sorted_le h2 (show i ≤ ((w.times.n : Int) - 1).toNat by omega) (by omega)
    exact isTick_of ⟨by omega, by omega⟩
theorem Watch.Ok.to {w : Watch} (h : w.Ok) : w.ok = true := by
  have hs : w.times.sorted = true := by
    unfold Fam.sorted
    rw [decide_eq_true_eq]
    intro i hi
    exact h.s i (i + 1) (by omega) (by omega)
  have h1 := h.c0
  have h2 := h.c1
  have h3 := h.n
  obtain ⟨c0, c1, c2, c3, c4, c5, c6, p0, p1⟩ := h.f
  simp only [Watch.ok, Bool.and_eq_true, Bool.or_eq_true, decide_eq_true_eq]
  refine ⟨⟨⟨⟨⟨⟨⟨⟨⟨⟨⟨⟨⟨⟨h1, h2⟩, by omega⟩, hs⟩, p0⟩, p1⟩, h.t⟩, ?_⟩, c0⟩, c1⟩, c2⟩, c3⟩, c4⟩, c5⟩, c6⟩
  by_cases e : (w.times.n : Int) ≤ 0
  · exact .inl e
  · exact .inr ⟨h.r _ (by omega), h.r _ (by omega)⟩

/-! ### What is kept -/
theorem cnt_mono (g : Nat → Int) (c : Int) {a b : Nat} (h : a ≤ b) : cntT g c a ≤ cntT g c b := by
  induction b with
  | zero => rw [Nat.le_zero.1 h]; exact Nat.le_refl _
  | succ b ih =>
    by_cases e : a = b + 1
    · rw [e]; exact Nat.le_refl _
    · have := ih (by omega)
      simp only [cntT]
      omega
theorem cnt_upto {g : Nat → Int} {c : Int} {i : Nat} : ∀ {k : Nat}, (∀ j, i ≤ j → j < k → c < g j) → cntT g c k ≤ i
  | 0, _ => Nat.zero_le _
  | k + 1, h => by
    by_cases e : i ≤ k
    · have h1 := h k e (by omega)
      have h2 : cntT g c k ≤ i := cnt_upto fun j a b => h j a (by omega)
      simp only [cntT]
      rw [if_neg (by omega)]
      omega
    · exact Nat.le_trans (cnt_le g c (k + 1)) (by omega)
theorem kept_old {f : Fam} (h : ∀ a b, a ≤ b → b < f.n → f.g a ≤ f.g b) {c : Int} {i : Nat} (hi : i < cntT f.g c f.n) : f.g i ≤ c := by
  by_cases e : f.g i ≤ c
  · exact e
  · exfalso
    have := cnt_upto (g := f.g) (c := c) (i := i) (k := f.n) fun j a b => by have := h i j a b; omega
    omega
theorem sorted_of {f : Fam} (h : ∀ a b, a ≤ b → b < f.n → f.g a ≤ f.g b) : f.sorted = true := by
  unfold Fam.sorted
  rw [decide_eq_true_eq]
  intro i hi
  exact h i (i + 1) (by omega) (by omega)
theorem kept_new {f : Fam} (h : ∀ a b, a ≤ b → b < f.n → f.g a ≤ f.g b) {c : Int} {i : Nat} (h1 : cntT f.g c f.n ≤ i) (h2 : i < f.n) : c < f.g i := by
  by_cases e : f.g i ≤ c
  · exfalso
    have := cnt_all (sorted_of h) h2 e (i + 1) (Nat.le_refl _)
    have := cnt_mono f.g c (show i + 1 ≤ f.n by omega)
    omega
  · omega
theorem kept_n (f : Fam) (c : Int) : (f.kept c).n = f.n - cntT f.g c f.n := rfl
theorem kept_g (f : Fam) (c : Int) (i : Nat) : (f.kept c).g i = f.g (cntT f.g c f.n + i) := rfl

theorem Watch.Ok.fresh {w : Watch} (h : w.Ok) (now : Int) : (w.fresh now).Ok := by
  have hc := cnt_le w.times.g (now - 32) w.times.n
  have hn := h.n
  refine ⟨h.c0, h.c1, ?_, fun a b hab hb => ?_, ⟨h.f.c0, h.f.c1, h.f.c2, h.f.c3, h.f.c4, h.f.c5, h.f.c6, h.f.p0, h.f.p1⟩, h.t, fun i hi => ?_⟩
  · show w.times.n - cntT w.times.g (now - 32) w.times.n ≤ 40
    omega
  · have hb : b < w.times.n - cntT w.times.g (now - 32) w.times.n := hb
    exact h.s _ _ (by omega) (by omega)
  · have hi : i < w.times.n - cntT w.times.g (now - 32) w.times.n := hi
    exact h.r _ (by omega)
theorem Watch.Ok.mark1 {w : Watch} (h : w.Ok) (f : Int) : (w.mark1 f).Ok := ⟨h.c0, h.c1, h.n, h.s, h.f.mark1 f, h.t, h.r⟩
theorem Watch.Ok.marks {w : Watch} (h : w.Ok) (l : Fam) : ∀ k, (w.marks l k).Ok
  | 0 => h
  | k + 1 => (Watch.Ok.marks h l k).mark1 _
theorem marks_same (w : Watch) (l : Fam) : ∀ k, (w.marks l k).client = w.client ∧ (w.marks l k).seq = w.seq ∧ (w.marks l k).times = w.times ∧ (w.marks l k).since = w.since
  | 0 => ⟨rfl, rfl, rfl, rfl⟩
  | k + 1 => marks_same w l k
theorem push_g (f : Fam) (x : Int) (i : Nat) : (f.push x).g i = if i = f.n then x else f.g i := rfl
theorem Watch.Ok.took {w : Watch} (h : w.Ok) {now : Int} {i : Input} (hn : isTick now = true) (hl : ∀ j, j < w.times.n → w.times.g j ≤ now) (hm : (w.fresh now).times.n < 40) : (w.took now i).Ok := by
  have hF := h.fresh now
  have hl2 : ∀ j, j < (w.fresh now).times.n → (w.fresh now).times.g j ≤ now := fun j hj => by
    have hj : j < w.times.n - cntT w.times.g (now - 32) w.times.n := hj
    exact hl _ (by omega)
  refine ⟨hF.c0, hF.c1, hm, fun a b hab hb => ?_, ⟨hF.f.c0, hF.f.c1, hF.f.c2, hF.f.c3, hF.f.c4, hF.f.c5, hF.f.c6, hF.f.p0, hF.f.p1⟩, hF.t, fun j hj => ?_⟩
  · have hb : b < (w.fresh now).times.n + 1 := hb
    show ((w.fresh now).times.push now).g a ≤ ((w.fresh now).times.push now).g b
    simp only [push_g]
    by_cases e : b = (w.fresh now).times.n
    · rw [if_pos e]
      by_cases e2 : a = (w.fresh now).times.n
      · rw [if_pos e2]; exact Int.le_refl _
      · rw [if_neg e2]; exact hl2 a (by omega)
    · rw [if_neg e, if_neg (by omega)]
      exact hF.s a b hab (by omega)
  · have hj : j < (w.fresh now).times.n + 1 := hj
    show isTick (((w.fresh now).times.push now).g j) = true
    simp only [push_g]
    split
    · exact hn
    · exact hF.r j (by omega)
theorem late_of {w : Watch} {now : Int} (h : ∀ j, j < w.times.n → w.times.g j ≤ now) : w.late now = false := by
  unfold Watch.late
  by_cases e : 0 < (w.times.n : Int)
  · have := h ((w.times.n : Int) - 1).toNat (by omega)
    simp only [Bool.and_eq_false_iff, decide_eq_false_iff_not]
    exact .inr (by omega)
  · simp only [Bool.and_eq_false_iff, decide_eq_false_iff_not]
    exact .inl e
theorem good_of {w : Watch} {now : Int} {i : Input} (h : w.Ok) (hc : i.client = w.client) (hn : isTick now = true) (hl : ∀ j, j < w.times.n → w.times.g j ≤ now) : chkBad w now i = false := by
  unfold chkBad
  rw [h.to, hn, late_of hl, decide_eq_false (by rw [hc]; exact fun h => h rfl)]
  rfl

/-! ### The state of Bounds -/
structure BInv (w : Watch) (now : Int) (T S : Fam) : Prop where
  ok : w.Ok
  cl : w.client = 2
  nt : 0 ≤ now
  le : ∀ i, i < w.times.n → w.times.g i ≤ now
  m : w.times.n ≤ T.n
  suf : ∀ j, j < w.times.n → w.times.g j = T.g (T.n - w.times.n + j)
  old : ∀ j, j < T.n - w.times.n → T.g j ≤ now - 32
  sn : S.n = T.n
  sl : 0 < S.n → S.g (S.n - 1) = w.seq
/-- What may come of a step. -/
inductive BStep (w : Watch) (now : Int) (i : Input) (T S : Fam) : Res → Prop
  | no {r : Res} (e : r.e = 0) (ok : r.ok = false) (hv : r.w.ok = true) (hs : r.w.seq = w.seq) (hl : r.l.n = 1) (hx : r.i = input0) (hc : r.w.client = 2) (hsi : r.w.since = w.since) (hi : BInv r.w now T S) : BStep w now i T S r
  | yes {r : Res} (e : r.e = 0) (ok : r.ok = true) (hv : r.w.ok = true) (h1 : r.i.seq = i.seq) (h2 : r.w.seq = i.seq) (h3 : 0 < S.n → S.g (S.n - 1) < i.seq) (h4 : (-64 ≤ r.i.moveX ∧ r.i.moveX ≤ 64) ∧ -64 ≤ r.i.moveY ∧ r.i.moveY ≤ 64) (h5 : (-8192 ≤ r.i.aimX ∧ r.i.aimX ≤ 8192) ∧ -8192 ≤ r.i.aimY ∧ r.i.aimY ≤ 8192)
      (h6 : now - 16 ≤ i.tick ∧ i.tick ≤ now + 8) (h7 : r.i.fire = true → (now - 16 ≤ r.i.seen ∧ r.i.seen ≤ now) ∧ 0 ≤ r.i.part ∧ r.i.part ≤ 15) (h8 : 40 ≤ T.n → (T.push now).g (T.n - 40) ≤ now - 32) (hi : BInv r.w now (T.push now) (S.push i.seq)) : BStep w now i T S r
theorem refusal_zero {w : Watch} {now : Int} {i : Input} (h : refusal w now i = 0) : w.seq < i.seq ∧ (now - 16 ≤ i.tick ∧ i.tick ≤ now + 8) ∧ (w.fresh now).times.n < 40 := by
  unfold refusal at h
  split at h
  · cases h
  · split at h
    · cases h
    · split at h
      · cases h
      · omega
theorem beyond_not {v : Vec} {m : Int} (h : beyond v m = false) : (-m ≤ v.x ∧ v.x ≤ m) ∧ -m ≤ v.y ∧ v.y ≤ m := by
  unfold beyond at h
  simp only [Bool.or_eq_false_iff, decide_eq_false_iff_not] at h
  omega
theorem corr_move {i : Input} (hin : i.In) (now : Int) : (-64 ≤ (corr i now 3).moveX ∧ (corr i now 3).moveX ≤ 64) ∧ -64 ≤ (corr i now 3).moveY ∧ (corr i now 3).moveY ≤ 64 := by
  have h1 : (corr i now 3).moveX = (corr1 i).moveX ∧ (corr i now 3).moveY = (corr1 i).moveY := by
    show (corr3 i now).moveX = _ ∧ (corr3 i now).moveY = _
    unfold corr3 corr2
    constructor <;> (split <;> split <;> rfl)
  rw [h1.1, h1.2]
  cases hb : bMove i with
  | true =>
    have := lim_ok (v := ⟨i.moveX, i.moveY⟩) (m := 64) hin.1.1 hin.1.2 (by omega)
    unfold corr1
    rw [hb]
    exact ⟨⟨this.1, this.2.1⟩, this.2.2.1, this.2.2.2⟩
  | false =>
    unfold corr1
    rw [hb]
    exact beyond_not hb
theorem corr_aim {i : Input} (hin : i.In) (now : Int) : (-8192 ≤ (corr i now 3).aimX ∧ (corr i now 3).aimX ≤ 8192) ∧ -8192 ≤ (corr i now 3).aimY ∧ (corr i now 3).aimY ≤ 8192 := by
  have h1 : (corr i now 3).aimX = (corr2 i).aimX ∧ (corr i now 3).aimY = (corr2 i).aimY := by
    show (corr3 i now).aimX = _ ∧ (corr3 i now).aimY = _
    unfold corr3
    constructor <;> (split <;> rfl)
  rw [h1.1, h1.2]
  cases hb : bAim i with
  | true =>
    have := lim_ok (v := ⟨i.aimX, i.aimY⟩) (m := 8192) hin.2.1 hin.2.2 (by omega)
    unfold corr2
    rw [hb]
    exact ⟨⟨this.1, this.2.1⟩, this.2.2.1, this.2.2.2⟩
  | false =>
    unfold corr2
    rw [hb]
    have := corr1_same i
    rw [this.2.2.2.2.1, this.2.2.2.2.2.1]
    exact beyond_not hb
theorem corr_seq (i : Input) (now : Int) : (corr i now 3).seq = i.seq := by
  show (corr3 i now).seq = _
  have := (corr2_same i).2.1
  unfold corr3
  split <;> exact this
theorem corr_fire {i : Input} {now : Int} (h0 : 0 ≤ now) (h : (corr i now 3).fire = true) : (now - 16 ≤ (corr i now 3).seen ∧ (corr i now 3).seen ≤ now) ∧ 0 ≤ (corr i now 3).part ∧ (corr i now 3).part ≤ 15 := by
  have hc := corr2_same i
  have h : (corr3 i now).fire = true := h
  show (now - 16 ≤ (corr3 i now).seen ∧ (corr3 i now).seen ≤ now) ∧ 0 ≤ (corr3 i now).part ∧ (corr3 i now).part ≤ 15
  cases hs : shotOk i now with
  | true =>
    have e : corr3 i now = corr2 i := by unfold corr3; rw [hs]
    rw [e] at h ⊢
    rw [hc.2.2.2.1] at h
    rw [hc.2.2.2.2.1, hc.2.2.2.2.2]
    unfold shotOk at hs
    rw [h] at hs
    simp only [Bool.not_true, Bool.false_or, Bool.and_eq_true, Bool.or_eq_true, decide_eq_true_eq] at hs
    omega
  | false =>
    have e : (corr3 i now).fire = false := by unfold corr3; rw [hs]
    rw [e] at h
    cases h
theorem bounds_step {w : Watch} {was now : Int} {T S : Fam} {i : Input} (h : BInv w was T S) (hn : was ≤ now) (hn2 : now ≤ 1000000) (hc : i.client = 2) (hin : i.In) : BStep w now i T S (check w now i) := by
  have ht : isTick now = true := isTick_of ⟨by have := h.nt; omega, by omega⟩
  have hle : ∀ j, j < w.times.n → w.times.g j ≤ now := fun j hj => Int.le_trans (h.le j hj) hn
  have hg := good_of h.ok (by rw [hc, h.cl] : i.client = w.client) ht hle
  have hF := h.ok.fresh now
  have hcn := cnt_le w.times.g (now - 32) w.times.n
  have fn : (w.fresh now).times.n = w.times.n - cntT w.times.g (now - 32) w.times.n := rfl
  have fg : ∀ j, (w.fresh now).times.g j = w.times.g (cntT w.times.g (now - 32) w.times.n + j) := fun j => rfl
  have hm := h.m
  have hi : BInv (w.fresh now) now T S := by
    refine ⟨hF, h.cl, by have := h.nt; omega, fun j hj => ?_, ?_, fun j hj => ?_, fun j hj => ?_, h.sn, h.sl⟩
    · rw [fn] at hj; exact hle _ (by omega)
    · rw [fn]; omega
    · rw [fn] at hj ⊢
      rw [fg, h.suf _ (by omega)]
      exact congrArg T.g (by omega)
    · rw [fn] at hj
      by_cases e : j < T.n - w.times.n
      · have := h.old j e; omega
      · have := kept_old h.ok.s (c := now - 32) (i := j - (T.n - w.times.n)) (by omega)
        rw [h.suf _ (by omega)] at this
        rwa [show T.n - w.times.n + (j - (T.n - w.times.n)) = j by omega] at this
  by_cases hr : refusal w now i = 0
  · rw [check_taken hg hr]
    obtain ⟨r1, r2, r3⟩ := refusal_zero hr
    have hT := h.ok.took (i := i) ht hle r3
    have hM := hT.marks (flagsOf i now 3) (flagsOf i now 3).n
    have hS := marks_same (w.took now i) (flagsOf i now 3) (flagsOf i now 3).n
    refine .yes rfl rfl hM.to (corr_seq i now) hS.2.1 (fun hp => by rw [h.sl hp]; exact r1) (corr_move hin now) (corr_aim hin now) r2 (fun hf => corr_fire (by have := h.nt; omega) hf) (fun h40 => ?_) ?_
    · rw [push_g, if_neg (by omega)]
      exact hi.old _ (by omega)
    · generalize (w.took now i).marks (flagsOf i now 3) (flagsOf i now 3).n = z at hM hS ⊢
      obtain ⟨s1, s2, s3, s4⟩ := hS
      have zn : z.times.n = (w.fresh now).times.n + 1 := by rw [s3]; rfl
      have zg : ∀ j, z.times.g j = if j = (w.fresh now).times.n then now else (w.fresh now).times.g j := fun j => by rw [s3]; rfl
      have him := hi.m
      refine ⟨hM, by rw [s1]; exact h.cl, hi.nt, fun j hj => ?_, ?_, fun j hj => ?_, fun j hj => ?_, ?_, fun _ => ?_⟩
      · replace hj : j < z.times.n := hj
        show z.times.g j ≤ now
        rw [zg]
        split
        · exact Int.le_refl _
        · exact hi.le j (by omega)
      · show z.times.n ≤ T.n + 1
        omega
      · replace hj : j < z.times.n := hj
        show z.times.g j = (T.push now).g (T.n + 1 - z.times.n + j)
        rw [zg]
        rw [push_g]
        by_cases e : j = (w.fresh now).times.n
        · rw [if_pos e, if_pos (by omega)]
        · rw [if_neg e, if_neg (by omega), hi.suf j (by omega)]
          exact congrArg T.g (by omega)
      · have hj : j < T.n + 1 - z.times.n := hj
        show (T.push now).g j ≤ _
        rw [push_g, if_neg (by omega)]
        exact hi.old j (by omega)
      · show S.n + 1 = T.n + 1
        rw [h.sn]
      · show (S.push i.seq).g (S.n + 1 - 1) = z.seq
        rw [push_g, if_pos (by omega), s2]
        rfl
  · rw [check_refused hg rfl hr]
    have hM := hF.mark1 (refusal w now i)
    exact .no rfl rfl hM.to rfl rfl rfl h.cl rfl ⟨hM, hi.cl, hi.nt, hi.le, hi.m, hi.suf, hi.old, hi.sn, hi.sl⟩
end Go.Proofs.YtinefblphbicaaaDoor
