/- The contract of Check. -/
import Derived.Test.YtbnoejabpmlmdaaGreatDoorM4
namespace Go.Proofs.YtbnoejabpmlmdaaGreatDoor.Df
open Go.RowKit

/-- How many of the first k are old. -/
def cntT (g : Nat → Int) (c : Int) : Nat → Nat
  | 0 => 0
  | k + 1 => cntT g c k + if g k ≤ c then 1 else 0
def _root_.Go.Proofs.YtbnoejabpmlmdaaGreatDoor.Fam.kept (f : Fam) (c : Int) : Fam := ⟨f.n - cntT f.g c f.n, fun i => f.g (cntT f.g c f.n + i)⟩
def _root_.Go.Proofs.YtbnoejabpmlmdaaGreatDoor.Fam.push (f : Fam) (x : Int) : Fam := ⟨f.n + 1, fun i => if i = f.n then x else f.g i⟩
def input0 : Input := ⟨0, 0, 0, 0, 0, false, 0, 0, 0, 0⟩
def Watch.late (w : Watch) (now : Int) : Bool := decide (0 < (w.times.n : Int)) && decide (now < w.times.g ((w.times.n : Int) - 1).toNat)
def chkBad (w : Watch) (now : Int) (i : Input) : Bool := !w.ok || decide (¬ i.client = w.client) || !isTick now || w.late now
def Watch.fresh (w : Watch) (now : Int) : Watch := { w with times := w.times.kept (now - 32) }
def refusal (w : Watch) (now : Int) (i : Input) : Int :=
  if i.seq ≤ w.seq then 1 else if i.tick < now - 16 ∨ now + 8 < i.tick then 2 else if 40 ≤ ((w.fresh now).times.n : Int) then 3 else 0
def shotOk (i : Input) (now : Int) : Bool := !i.fire || decide (max 0 (now - 16) ≤ i.seen) && decide (0 ≤ i.part) && decide (i.part < 16) && (decide (i.seen < now) || decide (i.seen = now) && decide (i.part = 0))
def bMove (i : Input) : Bool := beyond ⟨i.moveX, i.moveY⟩ 64
def bAim (i : Input) : Bool := beyond ⟨i.aimX, i.aimY⟩ 8192
def corr1 (i : Input) : Input := match bMove i with | true => ⟨i.client, i.seq, i.tick, (lim ⟨i.moveX, i.moveY⟩ 64).x, (lim ⟨i.moveX, i.moveY⟩ 64).y, i.fire, i.aimX, i.aimY, i.seen, i.part⟩ | false => i
def corr2 (i : Input) : Input := match bAim i with | true => ⟨(corr1 i).client, (corr1 i).seq, (corr1 i).tick, (corr1 i).moveX, (corr1 i).moveY, (corr1 i).fire, (lim ⟨i.aimX, i.aimY⟩ 8192).x, (lim ⟨i.aimX, i.aimY⟩ 8192).y, (corr1 i).seen, (corr1 i).part⟩ | false => corr1 i
def corr3 (i : Input) (now : Int) : Input := match shotOk i now with | true => corr2 i | false => ⟨(corr2 i).client, (corr2 i).seq, (corr2 i).tick, (corr2 i).moveX, (corr2 i).moveY, false, (corr2 i).aimX, (corr2 i).aimY, (corr2 i).seen, (corr2 i).part⟩
def corr (i : Input) (now : Int) : Nat → Input
  | 0 => i
  | 1 => corr1 i
  | 2 => corr2 i
  | _ + 3 => corr3 i now
def fl0 : Fam := ⟨0, fun _ => 0⟩
def fl1 (i : Input) : Fam := match bMove i with | true => fl0.push 4 | false => fl0
def fl2 (i : Input) : Fam := match bAim i with | true => (fl1 i).push 5 | false => fl1 i
def fl3 (i : Input) (now : Int) : Fam := match shotOk i now with | true => fl2 i | false => (fl2 i).push 6
def flagsOf (i : Input) (now : Int) : Nat → Fam
  | 0 => fl0
  | 1 => fl1 i
  | 2 => fl2 i
  | _ + 3 => fl3 i now
theorem corr1_same (i : Input) : (corr1 i).client = i.client ∧ (corr1 i).seq = i.seq ∧ (corr1 i).tick = i.tick ∧ (corr1 i).fire = i.fire ∧ (corr1 i).aimX = i.aimX ∧ (corr1 i).aimY = i.aimY ∧ (corr1 i).seen = i.seen ∧ (corr1 i).part = i.part := by
  unfold corr1; split <;> simp
theorem corr2_same (i : Input) : (corr2 i).client = i.client ∧ (corr2 i).seq = i.seq ∧ (corr2 i).tick = i.tick ∧ (corr2 i).fire = i.fire ∧ (corr2 i).seen = i.seen ∧ (corr2 i).part = i.part := by
  have h := corr1_same i
  unfold corr2; split <;> simp [h]
theorem pushEq2 {f : Fam} {x : Int} {h : Nat → Int} {j : Nat} (hx : ∀ k, k < f.n → h k = f.g k) (hj : j < f.n + 1) : (f.push x).g j = bif Nat.ble f.n j then x else h j := by
  show (if j = f.n then x else f.g j) = _
  by_cases e : j = f.n
  · subst e
    rw [if_pos rfl, Nat.ble_eq_true_of_le (Nat.le_refl _)]
    rfl
  · have : Nat.ble f.n j = false := by
      cases hb : Nat.ble f.n j with
      | false => rfl
      | true => exact absurd (Nat.le_of_ble_eq_true hb) (by omega)
    rw [if_neg e, this, ← hx j (by omega)]
    rfl
theorem pushEq {f : Fam} {x : Int} {j : Nat} (hj : j < f.n + 1) : (f.push x).g j = bif Nat.ble f.n j then x else f.g j := pushEq2 (fun _ _ => rfl) hj
theorem push_n (f : Fam) (x : Int) : (f.push x).n = f.n + 1 := rfl
theorem fl_n (i : Input) (now : Int) : (fl1 i).n ≤ 1 ∧ (fl2 i).n ≤ 2 ∧ (fl3 i now).n ≤ 3 := by
  have h1 : (fl1 i).n ≤ 1 := by unfold fl1; split <;> simp [push_n, fl0]
  have h2 : (fl2 i).n ≤ 2 := by unfold fl2; split <;> (try simp only [push_n]) <;> omega
  refine ⟨h1, h2, ?_⟩
  unfold fl3; split <;> (try simp only [push_n]) <;> omega
theorem push_ok {f : Fam} {x : Int} (h : flagOk f) (hx : 1 ≤ x ∧ x ≤ 7) : flagOk (f.push x) := by
  intro k hk
  show 1 ≤ (if k = f.n then x else f.g k) ∧ (if k = f.n then x else f.g k) ≤ 7
  by_cases e : k = f.n
  · rw [if_pos e]; exact hx
  · rw [if_neg e]; exact h k (by have : k < f.n + 1 := hk; omega)
theorem fl_ok (i : Input) (now : Int) : flagOk (fl3 i now) := by
  have h0 : flagOk fl0 := fun k hk => absurd hk (Nat.not_lt_zero _)
  have h1 : flagOk (fl1 i) := by unfold fl1; split; exact push_ok h0 (by decide); exact h0
  have h2 : flagOk (fl2 i) := by unfold fl2; split; exact push_ok h1 (by decide); exact h1
  unfold fl3; split; exact h2; exact push_ok h2 (by decide)
def Watch.took (w : Watch) (now : Int) (i : Input) : Watch := { w.fresh now with seq := i.seq, times := (w.fresh now).times.push now }
structure Res where
  w : Watch
  i : Input
  l : Fam
  ok : Bool
  e : Int
def Res.sv (r : Res) : SV := .tup [r.w.sv, r.i.sv, .rs 1 r.l.n fun i => [.v (.int .u8 (r.l.g i))], .v (.bool r.ok), .v (.int .i64 r.e)]
def check (w : Watch) (now : Int) (i : Input) : Res :=
  if chkBad w now i then ⟨watch0, input0, ⟨0, fun _ => 0⟩, false, 2⟩
  else if refusal w now i ≠ 0 then ⟨(w.fresh now).mark1 (refusal w now i), input0, ⟨1, fun _ => refusal w now i⟩, false, 0⟩
  else ⟨(w.took now i).marks (flagsOf i now 3) (flagsOf i now 3).n, corr i now 3, flagsOf i now 3, true, 0⟩

def zeroI : List SV := [.il .i64 0, .il .i64 0, .il .i64 0, .il .i64 0, .il .i64 0, .bl false, .il .i64 0, .il .i64 0, .il .i64 0, .il .i64 0]
/-- A watch with its times in a list of its own. -/
def Watch.own (w : Watch) (m e : Nat) : List SV := [.v (.int .i64 w.client), .v (.int .i64 w.seq), .g m e 1 0 w.times.n, .v (.int .i64 w.counts0), .v (.int .i64 w.counts1), .v (.int .i64 w.counts2), .v (.int .i64 w.counts3), .v (.int .i64 w.counts4), .v (.int .i64 w.counts5), .v (.int .i64 w.counts6), .v (.int .i64 w.points), .v (.int .i64 w.since)]
def chkSl : List (Nat × Slot) := [sl 3 (.p 0 0), sl 4 (.p 1 0), sl 5 (.p 2 0), sl 6 (.p 3 0), sl 7 (.p 4 0)]
def famC (f : Nat → Int) : Nat → List SV := fun j => [.v (.int .i64 (f j))]
def cut4 (w : Watch) (now : Int) (i : Input) : Cut := ⟨Nat × (Nat → Int), fun x => ∀ k, k < (w.fresh now).times.n → x.2 k = (w.fresh now).times.g k,
  fun x => ⟨chkSl, [(0, .lay ((w.fresh now).own 5 5) 63), (1, .lay [.v (.int .i64 now)] 3), (2, .lay i.cells 28), (3, .lay zeroW 63), (4, .lay zeroI 28), (5, .lst 5 1 x.1 (famC x.2) 3)], 6, 0, [], []⟩, fun _ => 0⟩
def corrCl : List SV := [.f (.func 55) [] [.p 2 0], .f (.func 57) [] [.p 2 0], .f (.func 58) [] [.p 2 0, .p 1 0]]
def epo : Bool → Nat
  | true => 9
  | false => 8
def cut16 (w : Watch) (now : Int) (i : Input) : Cut := ⟨Nat × Bool, fun k => k.1 ≤ 3,
  fun k => ⟨chkSl ++ [sl 15 (.g 8 (epo k.2) 1 0 (flagsOf i now k.1).n), sl 96 (.s 7 1 0 3 3), sl 97 (.il .i64 3), sl 98 (.il .i64 k.1)],
   [(0, .lay ((w.took now i).own 5 6) 63), (1, .lay [.v (.int .i64 now)] 3), (2, .lay (corr i now k.1).cells 28), (3, .lay zeroW 63), (4, .lay zeroI 28), (5, .lst 6 1 (w.took now i).times.n (famC (w.took now i).times.g) 3), (7, .lay corrCl 105),
    (8, .lst (epo k.2) 1 (flagsOf i now k.1).n (fun j => [.v (.int .u8 ((flagsOf i now k.1).g j))]) 5)], 10, 0, [], []⟩, fun k => 3 - k.1⟩
def cut22 (w : Watch) (now : Int) (i : Input) : Cut := ⟨Unit, fun _ => True,
  fun _ => ⟨chkSl ++ [sl 15 (.rs 1 (flagsOf i now 3).n fun j => [.v (.int .u8 ((flagsOf i now 3).g j))])],
   [(0, .lay (w.took now i).cells 63), (1, .lay [.v (.int .i64 now)] 3), (2, .lay (corr i now 3).cells 28), (3, .lay zeroW 63), (4, .lay zeroI 28)], 5, 0, [], []⟩, fun _ => 0⟩
def chkH (w : Watch) (now : Int) (i : Input) : Heap := [(0, .lay w.cells 63), (1, .lay [.v (.int .i64 now)] 3), (2, .lay i.cells 28), (3, .lay zeroW 63), (4, .lay zeroI 28)]
def nilCut (w : Watch) (now : Int) (i : Input) : Cut := ⟨Unit, fun _ => True, fun _ => ⟨[sl 0 (.v (.slice none 0 0)), sl 7 (.il .i64 0), sl 8 (.il .i64 0)], chkH w now i, 5, 0, [], []⟩, fun _ => 0⟩
def lstH (w : Watch) (now : Int) (i : Input) (n : Nat) (f : Nat → Int) : Heap := (5, .lst 5 1 n (famC f) 3) :: chkH w now i
def idxCut (w : Watch) (now : Int) (i : Input) : Cut := ⟨Nat, fun k => k ≤ w.times.n ∧ ∀ j, j < k → now - 32 < w.times.g j,
  fun k => ⟨[sl 0 (.g 5 5 1 0 w.times.n), sl 1 (.f (.func 50) [] [.p 1 0]), sl 7 (.v (.int .i64 w.times.n)), sl 8 (.v (.int .i64 k))], lstH w now i w.times.n w.times.g, 6, 0, [], []⟩, fun k => w.times.n - k⟩
def keptF (g : Nat → Int) (c : Int) (j : Nat) : Nat → Int := fun k => if k < j - cntT g c j then g (cntT g c j + k) else g k
def delCut (w : Watch) (now : Int) (i : Input) : Cut := ⟨Nat, fun j => 1 ≤ j ∧ j ≤ w.times.n,
  fun j => ⟨[sl 0 (.g 5 5 1 0 w.times.n), sl 1 (.f (.func 50) [] [.p 1 0]), sl 5 (.v (.int .i64 (j - cntT w.times.g (now - 32) j : Nat))), sl 6 (.v (.int .i64 j))], lstH w now i w.times.n (keptF w.times.g (now - 32) j), 6, 0, [], []⟩, fun j => w.times.n - j⟩
theorem tickOf {n : Int} (h : isTick n = true) : 0 ≤ n ∧ n ≤ 1073741824 := by simpa [isTick] using h
theorem okW {w : Watch} (h : w.ok = true) : w.times.n ≤ 40 ∧ w.times.sorted = true ∧ w.Fit := by
  simp [Watch.ok] at h
  refine ⟨by omega, by grind, ?_⟩
  constructor <;> omega
theorem sorted_le {f : Fam} (h : f.sorted = true) {a b : Nat} (hab : a ≤ b) (hb : b < f.n) : f.g a ≤ f.g b := by
  have h : ∀ i, i < f.n - 1 → f.g i ≤ f.g (i + 1) := of_decide_eq_true h
  induction b with
  | zero => obtain rfl : a = 0 := by omega
            exact Int.le_refl _
  | succ b ih =>
    by_cases he : a = b + 1
    · subst he; exact Int.le_refl _
    · have := ih (by omega) (by omega)
      have := h b (by omega)
      omega
theorem cnt_le (g : Nat → Int) (c : Int) : ∀ j, cntT g c j ≤ j
  | 0 => Nat.le_refl _
  | j + 1 => by
    have := cnt_le g c j
    simp only [cntT]
    split <;> omega
theorem cnt_all {f : Fam} (h : f.sorted = true) {c : Int} {j : Nat} (hj : j < f.n) (hg : f.g j ≤ c) : ∀ k, k ≤ j + 1 → cntT f.g c k = k
  | 0, _ => rfl
  | k + 1, hk => by
    have := sorted_le h (a := k) (b := j) (by omega) hj
    simp only [cntT, cnt_all h hj hg k (by omega)]
    rw [if_pos (by omega)]
theorem cnt_none {g : Nat → Int} {c : Int} : ∀ {k : Nat}, (∀ j, j < k → c < g j) → cntT g c k = 0
  | 0, _ => rfl
  | k + 1, h => by
    simp only [cntT, cnt_none (k := k) fun j hj => h j (by omega)]
    rw [if_neg (by have := h k (by omega); omega)]
theorem keptF_all {g : Nat → Int} {c : Int} {j : Nat} (h : cntT g c j = j) (k : Nat) : keptF g c j k = g k := by
  unfold keptF
  rw [if_neg (by omega)]
theorem keptF_at {g : Nat → Int} {c : Int} {j k : Nat} (h : j - cntT g c j ≤ k) : keptF g c j k = g k := by
  unfold keptF
  rw [if_neg (by omega)]
theorem keptF_step {g : Nat → Int} {c : Int} {j k : Nat} (h : c < g j) (hc : cntT g c j ≤ j) : keptF g c (j + 1) k = if k = j - cntT g c j then keptF g c j j else keptF g c j k := by
  have e : cntT g c (j + 1) = cntT g c j := by simp only [cntT]; rw [if_neg (by omega)]; omega
  have e2 : keptF g c j j = g j := keptF_at (by omega)
  rw [e2]
  unfold keptF
  rw [e]
  split <;> split <;> (try split) <;> first | rfl | omega | skip
  · congr 1; omega
theorem bifBeq {x y : Int} {a b : Nat} : (bif a.beq b then x else y) = if a = b then x else y := by
  by_cases h : a = b
  · subst h
    rw [Nat.beq_refl, if_pos rfl]
    rfl
  · have : a.beq b = false := by
      cases hb : a.beq b with
      | false => rfl
      | true => exact absurd (Nat.eq_of_beq_eq_true hb) h
    rw [this, if_neg h]
    rfl
theorem insBeq {x y : Int} {off n j : Nat} : (bif insB off n j then x else y) = if off ≤ j ∧ j < off + n then x else y := by
  have : insB off n j = decide (off ≤ j ∧ j < off + n) := by
    unfold insB
    cases h : Nat.ble off j with
    | true =>
      have h1 := Nat.le_of_ble_eq_true h
      cases h2 : Nat.blt j (off + n) with
      | true => have h3 : j < off + n := Nat.le_of_ble_eq_true h2
                simp [h1, h3]
      | false => have h3 : ¬ j < off + n := fun hc => by
                   have : Nat.blt j (off + n) = true := Nat.ble_eq_true_of_le hc
                   rw [this] at h2; cases h2
                 simp [h3]
    | false =>
      have h1 : ¬ off ≤ j := fun hc => by rw [Nat.ble_eq_true_of_le hc] at h; cases h
      simp [h1]
  rw [this]
  by_cases h : off ≤ j ∧ j < off + n
  · rw [if_pos h, decide_eq_true h]; rfl
  · rw [if_neg h, decide_eq_false h]; rfl
theorem check_refused {w : Watch} {now : Int} {i : Input} {f : Int} (hb : chkBad w now i = false) (hf : refusal w now i = f) (h0 : f ≠ 0) : check w now i = ⟨(w.fresh now).mark1 f, input0, ⟨1, fun _ => f⟩, false, 0⟩ := by
  unfold check
  rw [if_neg (by rw [hb]; decide), hf, if_pos h0]
theorem check_taken {w : Watch} {now : Int} {i : Input} (hb : chkBad w now i = false) (hf : refusal w now i = 0) : check w now i = ⟨(w.took now i).marks (flagsOf i now 3) (flagsOf i now 3).n, corr i now 3, flagsOf i now 3, true, 0⟩ := by
  unfold check
  rw [if_neg (by rw [hb]; decide), hf, if_neg (by decide)]
theorem fresh_fit {w : Watch} {now : Int} (h : w.Fit) : (w.fresh now).Fit := ⟨h.c0, h.c1, h.c2, h.c3, h.c4, h.c5, h.c6, h.p0, h.p1⟩
def Input.In (i : Input) : Prop := (InR i.moveX ∧ InR i.moveY) ∧ InR i.aimX ∧ InR i.aimY
theorem okOf {w : Watch} {now : Int} {i : Input} (h : chkBad w now i = false) : w.ok = true ∧ i.client = w.client ∧ isTick now = true ∧ w.late now = false := by
  simpa [chkBad, and_assoc] using h
noncomputable def inIndex : FnI cx := ⟨92, Tryz.call92, Tryz.f92, Tryz.func92, [], [], [2], 0, by kernel_rfl⟩
noncomputable def inDelete : FnI cx := ⟨48, Tryz.call48, Tryz.f48, Tryz.func48, [], [], [5], 0, by kernel_rfl⟩
noncomputable def inClone : FnI cx := ⟨49, Tryz.call49, Tryz.f49, Tryz.func49, [], [], [], 0, by kernel_rfl⟩
noncomputable def inMarked : FnI cx := ⟨54, Tryz.call54, Tryz.f54, Tryz.func54, [], [], [], 3, by kernel_rfl⟩
noncomputable def inC1 : FnI cx := ⟨50, Tryz.call50, Tryz.f50, Tryz.func50, [], [], [], 0, by kernel_rfl⟩
noncomputable def inC2 : FnI cx := ⟨51, Tryz.call51, Tryz.f51, Tryz.func51, [], [], [], 0, by kernel_rfl⟩
noncomputable def inC3 : FnI cx := ⟨52, Tryz.call52, Tryz.f52, Tryz.func52, [], [], [], 0, by kernel_rfl⟩
noncomputable def inC4 : FnI cx := ⟨53, Tryz.call53, Tryz.f53, Tryz.func53, [], [], [], 0, by kernel_rfl⟩
noncomputable def inC5 : FnI cx := ⟨55, Tryz.call55, Tryz.f55, Tryz.func55, [], [], [], 0, by kernel_rfl⟩
noncomputable def inC6 : FnI cx := ⟨57, Tryz.call57, Tryz.f57, Tryz.func57, [], [], [], 0, by kernel_rfl⟩
noncomputable def inC7 : FnI cx := ⟨58, Tryz.call58, Tryz.f58, Tryz.func58, [], [], [], 0, by kernel_rfl⟩
set_option maxHeartbeats 20000000 in
set_option maxRecDepth 8000 in
theorem check_walk : ∀ a : Watch × Int × Input, conj [(a.1.times.n : Int) ≤ 1000000, a.2.2.In] → evFn (C := cx) [conValid, conTick, conMarked, conBeyond, conLimit] [inIndex, inDelete, inClone, inC1, inC2, inC3, inC4, inC5, inC6, inC7, inMarked] 4 ⟨[22], [4, 22], [16], 4⟩ Tryz.f18 ((rds3 rdWatch (rdI .i64) rdInput).enc a) fun v H _ => resOut (check a.1 a.2.1 a.2.2).sv H v := by
  intro ⟨w, now, i⟩ ⟨hn, hIn⟩
  replace hIn : i.In := hIn
  replace hn : (w.times.n : Int) ≤ 1000000 := hn
  refine And.intro ?_ ?_
  · repeat' (first | (refine And.intro ?_ ?_) | (intro _))
    all_goals first | exact trivial | exact hn
  refine And.intro ?_ ?_
  · repeat' (first | (refine And.intro ?_ ?_) | (intro _))
    all_goals simp only <;> omega
  refine And.intro ?_ ?_
  · repeat' (first | (refine And.intro ?_ ?_) | (intro _))
    all_goals simp only [decide_eq_true_eq] at * <;> omega
  refine And.intro ?_ ?_
  · intro hb
    replace hb : chkBad w now i = true := hb
    have hr : check w now i = ⟨watch0, input0, ⟨0, fun _ => 0⟩, false, 2⟩ := by
      unfold check
      rw [if_pos hb]
    simp only [hr]
    repeat' (first | (refine And.intro ?_ ?_) | (intro _) | exact rfl)
  intro hb
  replace hb : chkBad w now i = false := hb
  obtain ⟨ho, hc, hnow, hl⟩ := okOf hb
  obtain ⟨hnow0, hnow1⟩ := tickOf hnow
  obtain ⟨hn40, hsort, hfit⟩ := okW ho
  refine Exists.intro (cut4 w now i) ?_
  refine And.intro ?_ ?_
  · refine fun b hb0 => ?_
    replace hb0 : b = true → w.times.n = 0 := hb0
    refine And.intro (fun hb1 => ?_) (fun hb1 => ?_)
    · have h0 : w.times.n = 0 := by simp at hb1; exact hb0 hb1
      refine Exists.intro (nilCut w now i) ?_
      refine And.intro ?_ ?_
      · refine ⟨(), [], [], trivial, trivial, ?_⟩
        repeat' (first | (refine And.intro ?_ ?_) | (intro _) | exact rfl)
      intro _ _
      refine ⟨(0, fun _ => 0), [], [.cell 0 2 1 3], trivial, ?_, ?_⟩
      · intro k hk
        have : (w.fresh now).times.n = w.times.n - cntT w.times.g (now - 32) w.times.n := rfl
        omega
      · repeat' (first | (refine And.intro ?_ ?_) | (intro _) | exact rfl)
        · show w.times.n - _ = 0
          omega
        · omega
    · refine And.intro ?_ ?_
      · refine And.intro ?_ ?_
        · exact Nat.le_trans (by omega : w.times.n ≤ 1000000) (by decide)
        · show w.times.n * 8 ≤ 140737488355328
          omega
      refine Exists.intro (idxCut w now i) ?_
      refine And.intro ?_ ?_
      · refine ⟨(0 : Nat), [], [], trivial, ⟨Nat.zero_le _, fun j hj => by omega⟩, ?_⟩
        repeat' (first | (refine And.intro ?_ ?_) | (intro _) | exact rfl)
      refine fun (k : Nat) (hk : k ≤ w.times.n ∧ ∀ j, j < k → now - 32 < w.times.g j) => ?_
      obtain ⟨hk0, hk1⟩ := hk
      refine And.intro (fun hk2 => ?_) (fun hk2 => ?_)
      · have hk2 : (k : Int) < w.times.n := of_decide_eq_true hk2
        refine And.intro ⟨by omega, hk2⟩ ?_
        refine And.intro ⟨by omega, by omega⟩ ?_
        refine And.intro (fun hd => ?_) (fun hd => ?_)
        · have hd : w.times.g (0 + (k : Int).toNat) ≤ now - 32 := of_decide_eq_true hd
          rw [show 0 + (k : Int).toNat = k by omega] at hd
          refine And.intro (fun h => absurd (of_decide_eq_true h) (by omega)) (fun _ => ?_)
          have hk3 : k = 0 := by
            apply Classical.byContradiction
            intro hne
            have a := hk1 0 (by omega)
            have c := sorted_le hsort (a := 0) (b := k) (by omega) (by omega)
            omega
          subst hk3
          refine And.intro ⟨by omega, by omega⟩ ?_
          refine Exists.intro (delCut w now i) ?_
          refine And.intro ?_ ?_
          · refine ⟨(1 : Nat), [], [], trivial, ⟨by omega, by omega⟩, ?_⟩
            repeat' (first | (refine And.intro ?_ ?_) | (intro _) | exact rfl)
            · rw [cnt_all hsort (j := 0) (by omega) hd 1 (by omega)]
            · exact keptF_all (cnt_all hsort (j := 0) (by omega) hd 1 (by omega)) _
          refine fun (j : Nat) (hj : 1 ≤ j ∧ j ≤ w.times.n) => ?_
          obtain ⟨hj0, hj1⟩ := hj
          refine And.intro (fun hj2 => ?_) (fun hj2 => ?_)
          · have hj2 : (j : Int) < w.times.n := of_decide_eq_true hj2
            have hcj := cnt_le w.times.g (now - 32) j
            refine And.intro ⟨by omega, hj2⟩ ?_
            refine And.intro ⟨by omega, by omega⟩ ?_
            refine And.intro (fun hd2 => ?_) (fun hd2 => ?_)
            · refine And.intro ⟨by omega, by omega⟩ ?_
              refine And.intro (fun k hk => ?_) ?_
              · repeat' (first | (refine And.intro ?_ ?_) | exact trivial | exact rfl)
              refine And.intro ⟨by omega, by omega⟩ ?_
              refine And.intro ⟨by omega, by omega⟩ ?_
              have hd3 : ¬ keptF w.times.g (now - 32) j (0 + (j : Int).toNat) ≤ now - 32 := by simpa using hd2
              rw [show 0 + (j : Int).toNat = j by omega, keptF_at (by omega)] at hd3
              have hcs : cntT w.times.g (now - 32) (j + 1) = cntT w.times.g (now - 32) j := by simp only [cntT]; rw [if_neg (by omega)]; omega
              refine ⟨(j + 1 : Nat), [], [], ?_, ⟨by omega, by omega⟩, ?_⟩
              · show w.times.n - (j + 1) < w.times.n - j
                omega
              · repeat' (first | (refine And.intro ?_ ?_) | exact rfl | (intro _))
                · rw [hcs]; omega
                · refine Eq.trans (keptF_step (by omega) hcj) (Eq.trans ?_ bifBeq.symm)
                  rw [show 0 + ((j - cntT w.times.g (now - 32) j : Nat) : Int).toNat = j - cntT w.times.g (now - 32) j by omega, show 0 + (j : Int).toNat = j by omega]
                  rfl
            · have hd3 : keptF w.times.g (now - 32) j (0 + (j : Int).toNat) ≤ now - 32 := by simpa using hd2
              rw [show 0 + (j : Int).toNat = j by omega, keptF_at (by omega)] at hd3
              have hcs := cnt_all hsort (j := j) (by omega) hd3 (j + 1) (by omega)
              have hcj2 := cnt_all hsort (j := j) (by omega) hd3 j (by omega)
              refine And.intro ⟨by omega, by omega⟩ ?_
              refine ⟨(j + 1 : Nat), [], [], ?_, ⟨by omega, by omega⟩, ?_⟩
              · show w.times.n - (j + 1) < w.times.n - j
                omega
              · repeat' (first | (refine And.intro ?_ ?_) | exact rfl | (intro _))
                · rw [hcs, hcj2]; omega
                · refine Eq.trans (keptF_all hcs _) (keptF_all hcj2 _).symm
          · have hj2 : ¬ (j : Int) < w.times.n := of_decide_eq_false hj2
            obtain rfl : j = w.times.n := by omega
            have hcj := cnt_le w.times.g (now - 32) w.times.n
            refine And.intro ⟨by omega, by omega⟩ ?_
            refine And.intro (fun k hk => ?_) ?_
            · repeat' (first | (refine And.intro ?_ ?_) | exact trivial | exact rfl)
            refine And.intro ⟨by omega, by omega⟩ ?_
            refine ⟨(w.times.n, fun k => if k < w.times.n - cntT w.times.g (now - 32) w.times.n then keptF w.times.g (now - 32) w.times.n k else 0), [], [], trivial, ?_, ?_⟩
            · intro k hk
              replace hk : k < w.times.n - cntT w.times.g (now - 32) w.times.n := hk
              show (if k < w.times.n - cntT w.times.g (now - 32) w.times.n then keptF w.times.g (now - 32) w.times.n k else 0) = w.times.g (cntT w.times.g (now - 32) w.times.n + k)
              rw [if_pos hk]
              unfold keptF
              rw [if_pos hk]
            · repeat' (first | (refine And.intro ?_ ?_) | exact rfl | (intro _))
              rename_i k hk
              replace hk : k < w.times.n := hk
              refine Eq.trans ?_ insBeq.symm
              show (if k < w.times.n - cntT w.times.g (now - 32) w.times.n then keptF w.times.g (now - 32) w.times.n k else 0) = _
              by_cases h : k < w.times.n - cntT w.times.g (now - 32) w.times.n
              · rw [if_pos h, if_neg (by omega)]
                rfl
              · rw [if_neg h, if_pos (by omega)]
        · have hd : ¬ w.times.g (0 + (k : Int).toNat) ≤ now - 32 := of_decide_eq_false hd
          rw [show 0 + (k : Int).toNat = k by omega] at hd
          refine And.intro ⟨by omega, by omega⟩ ?_
          refine ⟨(k + 1 : Nat), [], [], ?_, ⟨by omega, fun j hj => ?_⟩, ?_⟩
          · show w.times.n - (k + 1) < w.times.n - k
            omega
          · by_cases hjk : j = k
            · subst hjk; omega
            · exact hk1 j (by omega)
          · repeat' (first | (refine And.intro ?_ ?_) | (intro _) | exact rfl)
      · have hk2 : ¬ (k : Int) < w.times.n := of_decide_eq_false hk2
        obtain rfl : k = w.times.n := by omega
        have hc0 : cntT w.times.g (now - 32) w.times.n = 0 := cnt_none hk1
        refine ⟨(w.times.n, w.times.g), [], [], trivial, ?_, ?_⟩
        · intro k hk
          show w.times.g k = w.times.g (cntT w.times.g (now - 32) w.times.n + k)
          rw [hc0, Nat.zero_add]
        · repeat' (first | (refine And.intro ?_ ?_) | exact rfl | (intro _))
          show w.times.n - cntT w.times.g (now - 32) w.times.n = w.times.n
          omega
  refine fun (x : Nat × (Nat → Int)) (hx : ∀ k, k < (w.fresh now).times.n → x.2 k = (w.fresh now).times.g k) => ?_
  obtain ⟨N, h⟩ := x
  replace hx : ∀ k, k < (w.fresh now).times.n → h k = (w.fresh now).times.g k := hx
  obtain ⟨c0, c1, c2, c3, c4, c5, c6, p0, p1⟩ := fresh_fit (now := now) hfit
  have hn41 : (w.fresh now).times.n ≤ 40 := by
    show w.times.n - _ ≤ 40
    omega
  refine And.intro (fun h1 => ?_) (fun h1 => ?_)
  · replace h1 : i.seq ≤ w.seq := of_decide_eq_true h1
    have hr := check_refused (f := 1) hb (if_pos h1) (by decide)
    simp only [hr]
    repeat' (first | (refine And.intro ?_ ?_) | exact rfl | (intro _))
    all_goals first
      | (simp only [decide_eq_true_eq, decide_eq_false_iff_not, Int.ofNat_eq_natCast] at *; omega)
      | (rename_i k hk; show (w.fresh now).times.g k = h (0 + k); rw [Nat.zero_add, hx k hk])
      | (rename_i k hk; obtain rfl : k = 0 := by omega
         exact rfl)
      | (refine Eq.trans ?_ rfl; simp only [decide_eq_true_eq, decide_eq_false_iff_not, Int.ofNat_eq_natCast] at *; simp [Watch.mark1, bump, costOf, *]; done)
      | (refine Eq.trans ?_ rfl; simp only [decide_eq_true_eq, decide_eq_false_iff_not, Int.ofNat_eq_natCast] at *; simp [Watch.mark1, bump, costOf, *]; omega)
      | trace_state
  replace h1 : ¬ i.seq ≤ w.seq := of_decide_eq_false h1
  refine And.intro ⟨by omega, by omega⟩ ?_
  refine And.intro (fun _ => ⟨by omega, by omega⟩) ?_
  refine And.intro (fun h2 => ?_) (fun h2 => ?_)
  · replace h2 : i.tick < now - 16 ∨ now + 8 < i.tick := by simpa using h2
    have hr := check_refused (f := 2) hb (by unfold refusal; rw [if_neg h1, if_pos h2]) (by decide)
    simp only [hr]
    repeat' (first | (refine And.intro ?_ ?_) | exact rfl | (intro _))
    all_goals first
      | (simp only [decide_eq_true_eq, decide_eq_false_iff_not, Int.ofNat_eq_natCast] at *; omega)
      | (rename_i k hk; show (w.fresh now).times.g k = h (0 + k); rw [Nat.zero_add, hx k hk])
      | (rename_i k hk; obtain rfl : k = 0 := by omega
         exact rfl)
      | (refine Eq.trans ?_ rfl; simp only [decide_eq_true_eq, decide_eq_false_iff_not, Int.ofNat_eq_natCast] at *; simp [Watch.mark1, bump, costOf, *]; done)
      | (refine Eq.trans ?_ rfl; simp only [decide_eq_true_eq, decide_eq_false_iff_not, Int.ofNat_eq_natCast] at *; simp [Watch.mark1, bump, costOf, *]; omega)
      | trace_state
  replace h2 : ¬ (i.tick < now - 16 ∨ now + 8 < i.tick) := by simpa using h2
  refine And.intro (fun h3 => ?_) (fun h3 => ?_)
  · replace h3 : 40 ≤ ((w.fresh now).times.n : Int) := of_decide_eq_true h3
    have hr := check_refused (f := 3) hb (by unfold refusal; rw [if_neg h1, if_neg h2, if_pos h3]) (by decide)
    simp only [hr]
    repeat' (first | (refine And.intro ?_ ?_) | exact rfl | (intro _))
    all_goals first
      | (simp only [decide_eq_true_eq, decide_eq_false_iff_not, Int.ofNat_eq_natCast] at *; omega)
      | (rename_i k hk; show (w.fresh now).times.g k = h (0 + k); rw [Nat.zero_add, hx k hk])
      | (rename_i k hk; obtain rfl : k = 0 := by omega
         exact rfl)
      | (refine Eq.trans ?_ rfl; simp only [decide_eq_true_eq, decide_eq_false_iff_not, Int.ofNat_eq_natCast] at *; simp [Watch.mark1, bump, costOf, *]; done)
      | (refine Eq.trans ?_ rfl; simp only [decide_eq_true_eq, decide_eq_false_iff_not, Int.ofNat_eq_natCast] at *; simp [Watch.mark1, bump, costOf, *]; omega)
      | trace_state
  replace h3 : ¬ 40 ≤ ((w.fresh now).times.n : Int) := of_decide_eq_false h3
  have hr := check_taken (w := w) (now := now) (i := i) hb (by unfold refusal; rw [if_neg h1, if_neg h2, if_neg h3])
  simp only [hr]
  refine And.intro ⟨⟨Nat.le_trans (by omega : (w.fresh now).times.n + 1 ≤ 1000000) (by decide), by show ((w.fresh now).times.n + 1) * 8 ≤ _; omega⟩, fun k hk j => ?_⟩ ?_
  · repeat' (first | (refine And.intro ?_ ?_) | exact trivial | exact rfl)
  refine Exists.intro (cut22 w now i) ?_
  refine And.intro ?_ ?_
  · refine Exists.intro (cut16 w now i) ?_
    refine And.intro ?_ ?_
    · refine ⟨((0 : Nat), false), [(6, 8), (7, 9), (8, 10), (9, 11)], [.slot 15 1 5], trivial, Nat.zero_le _, ?_⟩
      repeat' (first | (refine And.intro ?_ ?_) | exact rfl | (intro _))
      · rename_i j hj
        exact pushEq2 hx hj
      · exact absurd ‹_ < 0› (Nat.not_lt_zero _)
    refine fun (x : Nat × Bool) (hk : x.1 ≤ 3) => ?_
    obtain ⟨k, b⟩ := x
    replace hk : k ≤ 3 := hk
    have hk4 : k = 0 ∨ k = 1 ∨ k = 2 ∨ k = 3 := by omega
    clear hk
    obtain ⟨⟨im1, im2⟩, ia1, ia2⟩ := hIn
    have hfn := fl_n i now
    obtain rfl | rfl | rfl | rfl := hk4
    · cases b
      · refine And.intro (by decide : (0 : Int) ≤ 64 ∧ (64 : Int) ≤ 65536) ?_
        refine And.intro (fun hb1 => ?_) (fun hb1 => ?_)
        · replace hb1 : (!beyond ⟨(i).moveX, (i).moveY⟩ 64) = true := hb1
          have hb2 : bMove i = false := by
            show beyond _ _ = false
            simpa using hb1
          have e1 : corr1 i = i := by unfold corr1; rw [hb2]
          have e2 : fl1 i = fl0 := by unfold fl1; rw [hb2]
          refine ⟨((1 : Nat), false), [], [], by show 2 < 3; omega, by show 1 ≤ 3; omega, ?_⟩
          repeat' (first | (refine And.intro ?_ ?_) | exact rfl | (intro _))
          all_goals first
            | exact congrArg Input.client e1
            | exact congrArg Input.seq e1
            | exact congrArg Input.tick e1
            | exact congrArg Input.moveX e1
            | exact congrArg Input.moveY e1
            | exact congrArg Input.fire e1
            | exact congrArg Input.aimX e1
            | exact congrArg Input.aimY e1
            | exact congrArg Input.seen e1
            | exact congrArg Input.part e1
            | exact congrArg Fam.n e2
            | exact congrFun (congrArg Fam.g e2) _
            | trace_state
        · replace hb1 : (!beyond ⟨(i).moveX, (i).moveY⟩ 64) = false := hb1
          have hb2 : bMove i = true := by
            show beyond _ _ = true
            simpa using hb1
          have e1 : corr1 i = ⟨i.client, i.seq, i.tick, (lim ⟨i.moveX, i.moveY⟩ 64).x, (lim ⟨i.moveX, i.moveY⟩ 64).y, i.fire, i.aimX, i.aimY, i.seen, i.part⟩ := by unfold corr1; rw [hb2]
          have e2 : fl1 i = (fl0).push 4 := by unfold fl1; rw [hb2]
          have hz : (fl0).n ≤ 3 := Nat.zero_le _
          have hinr : InR (i).moveX ∧ InR (i).moveY := ⟨im1, im2⟩
          refine And.intro ⟨hinr, (by decide : (1 : Int) ≤ 64 ∧ (64 : Int) ≤ 65536)⟩ ?_
          refine And.intro ⟨⟨Nat.le_trans (Nat.add_le_add_right hz 1) (by decide), by show ((fl0).n + 1) * 1 ≤ _; omega⟩, fun k hk j => ?_⟩ ?_
          · repeat' (first | (refine And.intro ?_ ?_) | exact trivial | exact rfl)
          have g_client : (corr1 i).client = (i).client := by rw [e1]
          have g_seq : (corr1 i).seq = (i).seq := by rw [e1]
          have g_tick : (corr1 i).tick = (i).tick := by rw [e1]
          have g_moveX : (corr1 i).moveX = (lim ⟨i.moveX, i.moveY⟩ 64).x := by rw [e1]
          have g_moveY : (corr1 i).moveY = (lim ⟨i.moveX, i.moveY⟩ 64).y := by rw [e1]
          have g_fire : (corr1 i).fire = (i).fire := by rw [e1]
          have g_aimX : (corr1 i).aimX = (i).aimX := by rw [e1]
          have g_aimY : (corr1 i).aimY = (i).aimY := by rw [e1]
          have g_seen : (corr1 i).seen = (i).seen := by rw [e1]
          have g_part : (corr1 i).part = (i).part := by rw [e1]
          refine ⟨((1 : Nat), true), [(9, 11)], [], by show 2 < 3; omega, by show 1 ≤ 3; omega, ?_⟩
          repeat' (first | (refine And.intro ?_ ?_) | exact rfl | (intro _))
          all_goals first
            | exact g_client
            | exact g_seq
            | exact g_tick
            | exact g_moveX
            | exact g_moveY
            | exact g_fire
            | exact g_aimX
            | exact g_aimY
            | exact g_seen
            | exact g_part
            | exact congrArg Fam.n e2
            | (rename_i j hj; exact Eq.trans (congrFun (congrArg Fam.g e2) j) (pushEq hj))
            | trace_state
      · refine And.intro (by decide : (0 : Int) ≤ 64 ∧ (64 : Int) ≤ 65536) ?_
        refine And.intro (fun hb1 => ?_) (fun hb1 => ?_)
        · replace hb1 : (!beyond ⟨(i).moveX, (i).moveY⟩ 64) = true := hb1
          have hb2 : bMove i = false := by
            show beyond _ _ = false
            simpa using hb1
          have e1 : corr1 i = i := by unfold corr1; rw [hb2]
          have e2 : fl1 i = fl0 := by unfold fl1; rw [hb2]
          refine ⟨((1 : Nat), true), [], [], by show 2 < 3; omega, by show 1 ≤ 3; omega, ?_⟩
          repeat' (first | (refine And.intro ?_ ?_) | exact rfl | (intro _))
          all_goals first
            | exact congrArg Input.client e1
            | exact congrArg Input.seq e1
            | exact congrArg Input.tick e1
            | exact congrArg Input.moveX e1
            | exact congrArg Input.moveY e1
            | exact congrArg Input.fire e1
            | exact congrArg Input.aimX e1
            | exact congrArg Input.aimY e1
            | exact congrArg Input.seen e1
            | exact congrArg Input.part e1
            | exact congrArg Fam.n e2
            | exact congrFun (congrArg Fam.g e2) _
            | trace_state
        · replace hb1 : (!beyond ⟨(i).moveX, (i).moveY⟩ 64) = false := hb1
          have hb2 : bMove i = true := by
            show beyond _ _ = true
            simpa using hb1
          have e1 : corr1 i = ⟨i.client, i.seq, i.tick, (lim ⟨i.moveX, i.moveY⟩ 64).x, (lim ⟨i.moveX, i.moveY⟩ 64).y, i.fire, i.aimX, i.aimY, i.seen, i.part⟩ := by unfold corr1; rw [hb2]
          have e2 : fl1 i = (fl0).push 4 := by unfold fl1; rw [hb2]
          have hz : (fl0).n ≤ 3 := Nat.zero_le _
          have hinr : InR (i).moveX ∧ InR (i).moveY := ⟨im1, im2⟩
          refine And.intro ⟨hinr, (by decide : (1 : Int) ≤ 64 ∧ (64 : Int) ≤ 65536)⟩ ?_
          refine And.intro ⟨⟨Nat.le_trans (Nat.add_le_add_right hz 1) (by decide), by show ((fl0).n + 1) * 1 ≤ _; omega⟩, fun k hk j => ?_⟩ ?_
          · repeat' (first | (refine And.intro ?_ ?_) | exact trivial | exact rfl)
          have g_client : (corr1 i).client = (i).client := by rw [e1]
          have g_seq : (corr1 i).seq = (i).seq := by rw [e1]
          have g_tick : (corr1 i).tick = (i).tick := by rw [e1]
          have g_moveX : (corr1 i).moveX = (lim ⟨i.moveX, i.moveY⟩ 64).x := by rw [e1]
          have g_moveY : (corr1 i).moveY = (lim ⟨i.moveX, i.moveY⟩ 64).y := by rw [e1]
          have g_fire : (corr1 i).fire = (i).fire := by rw [e1]
          have g_aimX : (corr1 i).aimX = (i).aimX := by rw [e1]
          have g_aimY : (corr1 i).aimY = (i).aimY := by rw [e1]
          have g_seen : (corr1 i).seen = (i).seen := by rw [e1]
          have g_part : (corr1 i).part = (i).part := by rw [e1]
          refine ⟨((1 : Nat), true), [(9, 11)], [], by show 2 < 3; omega, by show 1 ≤ 3; omega, ?_⟩
          repeat' (first | (refine And.intro ?_ ?_) | exact rfl | (intro _))
          all_goals first
            | exact g_client
            | exact g_seq
            | exact g_tick
            | exact g_moveX
            | exact g_moveY
            | exact g_fire
            | exact g_aimX
            | exact g_aimY
            | exact g_seen
            | exact g_part
            | exact congrArg Fam.n e2
            | (rename_i j hj; exact Eq.trans (congrFun (congrArg Fam.g e2) j) (pushEq hj))
            | trace_state
    · cases b
      · refine And.intro (by decide : (0 : Int) ≤ 8192 ∧ (8192 : Int) ≤ 65536) ?_
        refine And.intro (fun hb1 => ?_) (fun hb1 => ?_)
        · replace hb1 : (!beyond ⟨(corr1 i).aimX, (corr1 i).aimY⟩ 8192) = true := hb1
          rw [(corr1_same i).2.2.2.2.1, (corr1_same i).2.2.2.2.2.1] at hb1
          have hb2 : bAim i = false := by
            show beyond _ _ = false
            simpa using hb1
          have e1 : corr2 i = corr1 i := by unfold corr2; rw [hb2]
          have e2 : fl2 i = fl1 i := by unfold fl2; rw [hb2]
          refine ⟨((2 : Nat), false), [], [], by show 1 < 2; omega, by show 2 ≤ 3; omega, ?_⟩
          repeat' (first | (refine And.intro ?_ ?_) | exact rfl | (intro _))
          all_goals first
            | exact congrArg Input.client e1
            | exact congrArg Input.seq e1
            | exact congrArg Input.tick e1
            | exact congrArg Input.moveX e1
            | exact congrArg Input.moveY e1
            | exact congrArg Input.fire e1
            | exact congrArg Input.aimX e1
            | exact congrArg Input.aimY e1
            | exact congrArg Input.seen e1
            | exact congrArg Input.part e1
            | exact congrArg Fam.n e2
            | exact congrFun (congrArg Fam.g e2) _
            | trace_state
        · replace hb1 : (!beyond ⟨(corr1 i).aimX, (corr1 i).aimY⟩ 8192) = false := hb1
          rw [(corr1_same i).2.2.2.2.1, (corr1_same i).2.2.2.2.2.1] at hb1
          have hb2 : bAim i = true := by
            show beyond _ _ = true
            simpa using hb1
          have e1 : corr2 i = ⟨(corr1 i).client, (corr1 i).seq, (corr1 i).tick, (corr1 i).moveX, (corr1 i).moveY, (corr1 i).fire, (lim ⟨(corr1 i).aimX, (corr1 i).aimY⟩ 8192).x, (lim ⟨(corr1 i).aimX, (corr1 i).aimY⟩ 8192).y, (corr1 i).seen, (corr1 i).part⟩ := by unfold corr2; rw [hb2]; rw [(corr1_same i).2.2.2.2.1, (corr1_same i).2.2.2.2.2.1]
          have e2 : fl2 i = (fl1 i).push 5 := by unfold fl2; rw [hb2]
          have hz : (fl1 i).n ≤ 3 := Nat.le_trans hfn.1 (by omega)
          have hinr : InR (corr1 i).aimX ∧ InR (corr1 i).aimY := ⟨by rw [(corr1_same i).2.2.2.2.1]; exact ia1, by rw [(corr1_same i).2.2.2.2.2.1]; exact ia2⟩
          refine And.intro ⟨hinr, (by decide : (1 : Int) ≤ 8192 ∧ (8192 : Int) ≤ 65536)⟩ ?_
          refine And.intro ⟨⟨Nat.le_trans (Nat.add_le_add_right hz 1) (by decide), by show ((fl1 i).n + 1) * 1 ≤ _; omega⟩, fun k hk j => ?_⟩ ?_
          · repeat' (first | (refine And.intro ?_ ?_) | exact trivial | exact rfl)
          have g_client : (corr2 i).client = (corr1 i).client := by rw [e1]
          have g_seq : (corr2 i).seq = (corr1 i).seq := by rw [e1]
          have g_tick : (corr2 i).tick = (corr1 i).tick := by rw [e1]
          have g_moveX : (corr2 i).moveX = (corr1 i).moveX := by rw [e1]
          have g_moveY : (corr2 i).moveY = (corr1 i).moveY := by rw [e1]
          have g_fire : (corr2 i).fire = (corr1 i).fire := by rw [e1]
          have g_aimX : (corr2 i).aimX = (lim ⟨(corr1 i).aimX, (corr1 i).aimY⟩ 8192).x := by rw [e1]
          have g_aimY : (corr2 i).aimY = (lim ⟨(corr1 i).aimX, (corr1 i).aimY⟩ 8192).y := by rw [e1]
          have g_seen : (corr2 i).seen = (corr1 i).seen := by rw [e1]
          have g_part : (corr2 i).part = (corr1 i).part := by rw [e1]
          refine ⟨((2 : Nat), true), [(9, 11)], [], by show 1 < 2; omega, by show 2 ≤ 3; omega, ?_⟩
          repeat' (first | (refine And.intro ?_ ?_) | exact rfl | (intro _))
          all_goals first
            | exact g_client
            | exact g_seq
            | exact g_tick
            | exact g_moveX
            | exact g_moveY
            | exact g_fire
            | exact g_aimX
            | exact g_aimY
            | exact g_seen
            | exact g_part
            | exact congrArg Fam.n e2
            | (rename_i j hj; exact Eq.trans (congrFun (congrArg Fam.g e2) j) (pushEq hj))
            | trace_state
      · refine And.intro (by decide : (0 : Int) ≤ 8192 ∧ (8192 : Int) ≤ 65536) ?_
        refine And.intro (fun hb1 => ?_) (fun hb1 => ?_)
        · replace hb1 : (!beyond ⟨(corr1 i).aimX, (corr1 i).aimY⟩ 8192) = true := hb1
          rw [(corr1_same i).2.2.2.2.1, (corr1_same i).2.2.2.2.2.1] at hb1
          have hb2 : bAim i = false := by
            show beyond _ _ = false
            simpa using hb1
          have e1 : corr2 i = corr1 i := by unfold corr2; rw [hb2]
          have e2 : fl2 i = fl1 i := by unfold fl2; rw [hb2]
          refine ⟨((2 : Nat), true), [], [], by show 1 < 2; omega, by show 2 ≤ 3; omega, ?_⟩
          repeat' (first | (refine And.intro ?_ ?_) | exact rfl | (intro _))
          all_goals first
            | exact congrArg Input.client e1
            | exact congrArg Input.seq e1
            | exact congrArg Input.tick e1
            | exact congrArg Input.moveX e1
            | exact congrArg Input.moveY e1
            | exact congrArg Input.fire e1
            | exact congrArg Input.aimX e1
            | exact congrArg Input.aimY e1
            | exact congrArg Input.seen e1
            | exact congrArg Input.part e1
            | exact congrArg Fam.n e2
            | exact congrFun (congrArg Fam.g e2) _
            | trace_state
        · replace hb1 : (!beyond ⟨(corr1 i).aimX, (corr1 i).aimY⟩ 8192) = false := hb1
          rw [(corr1_same i).2.2.2.2.1, (corr1_same i).2.2.2.2.2.1] at hb1
          have hb2 : bAim i = true := by
            show beyond _ _ = true
            simpa using hb1
          have e1 : corr2 i = ⟨(corr1 i).client, (corr1 i).seq, (corr1 i).tick, (corr1 i).moveX, (corr1 i).moveY, (corr1 i).fire, (lim ⟨(corr1 i).aimX, (corr1 i).aimY⟩ 8192).x, (lim ⟨(corr1 i).aimX, (corr1 i).aimY⟩ 8192).y, (corr1 i).seen, (corr1 i).part⟩ := by unfold corr2; rw [hb2]; rw [(corr1_same i).2.2.2.2.1, (corr1_same i).2.2.2.2.2.1]
          have e2 : fl2 i = (fl1 i).push 5 := by unfold fl2; rw [hb2]
          have hz : (fl1 i).n ≤ 3 := Nat.le_trans hfn.1 (by omega)
          have hinr : InR (corr1 i).aimX ∧ InR (corr1 i).aimY := ⟨by rw [(corr1_same i).2.2.2.2.1]; exact ia1, by rw [(corr1_same i).2.2.2.2.2.1]; exact ia2⟩
          refine And.intro ⟨hinr, (by decide : (1 : Int) ≤ 8192 ∧ (8192 : Int) ≤ 65536)⟩ ?_
          refine And.intro ⟨⟨Nat.le_trans (Nat.add_le_add_right hz 1) (by decide), by show ((fl1 i).n + 1) * 1 ≤ _; omega⟩, fun k hk j => ?_⟩ ?_
          · repeat' (first | (refine And.intro ?_ ?_) | exact trivial | exact rfl)
          have g_client : (corr2 i).client = (corr1 i).client := by rw [e1]
          have g_seq : (corr2 i).seq = (corr1 i).seq := by rw [e1]
          have g_tick : (corr2 i).tick = (corr1 i).tick := by rw [e1]
          have g_moveX : (corr2 i).moveX = (corr1 i).moveX := by rw [e1]
          have g_moveY : (corr2 i).moveY = (corr1 i).moveY := by rw [e1]
          have g_fire : (corr2 i).fire = (corr1 i).fire := by rw [e1]
          have g_aimX : (corr2 i).aimX = (lim ⟨(corr1 i).aimX, (corr1 i).aimY⟩ 8192).x := by rw [e1]
          have g_aimY : (corr2 i).aimY = (lim ⟨(corr1 i).aimX, (corr1 i).aimY⟩ 8192).y := by rw [e1]
          have g_seen : (corr2 i).seen = (corr1 i).seen := by rw [e1]
          have g_part : (corr2 i).part = (corr1 i).part := by rw [e1]
          refine ⟨((2 : Nat), true), [(9, 11)], [], by show 1 < 2; omega, by show 2 ≤ 3; omega, ?_⟩
          repeat' (first | (refine And.intro ?_ ?_) | exact rfl | (intro _))
          all_goals first
            | exact g_client
            | exact g_seq
            | exact g_tick
            | exact g_moveX
            | exact g_moveY
            | exact g_fire
            | exact g_aimX
            | exact g_aimY
            | exact g_seen
            | exact g_part
            | exact congrArg Fam.n e2
            | (rename_i j hj; exact Eq.trans (congrFun (congrArg Fam.g e2) j) (pushEq hj))
            | trace_state
    · cases b
      · refine And.intro (fun _ => ⟨by omega, by omega⟩) ?_
        refine And.intro (fun hb1 => ?_) (fun hb1 => ?_)
        · have hb2 : shotOk i now = true := by
            have h9 : shotOk (corr2 i) now = true := hb1
            unfold shotOk at h9 ⊢
            rw [(corr2_same i).2.2.2.1, (corr2_same i).2.2.2.2.1, (corr2_same i).2.2.2.2.2] at h9
            exact h9
          have e1 : corr3 i now = corr2 i := by unfold corr3; rw [hb2]
          have e2 : fl3 i now = fl2 i := by unfold fl3; rw [hb2]
          refine ⟨((3 : Nat), false), [], [], by show 0 < 1; omega, by show 3 ≤ 3; omega, ?_⟩
          repeat' (first | (refine And.intro ?_ ?_) | exact rfl | (intro _))
          all_goals first
            | exact congrArg Input.client e1
            | exact congrArg Input.seq e1
            | exact congrArg Input.tick e1
            | exact congrArg Input.moveX e1
            | exact congrArg Input.moveY e1
            | exact congrArg Input.fire e1
            | exact congrArg Input.aimX e1
            | exact congrArg Input.aimY e1
            | exact congrArg Input.seen e1
            | exact congrArg Input.part e1
            | exact congrArg Fam.n e2
            | exact congrFun (congrArg Fam.g e2) _
            | trace_state
        · have hb2 : shotOk i now = false := by
            have h9 : shotOk (corr2 i) now = false := hb1
            unfold shotOk at h9 ⊢
            rw [(corr2_same i).2.2.2.1, (corr2_same i).2.2.2.2.1, (corr2_same i).2.2.2.2.2] at h9
            exact h9
          have e1 : corr3 i now = ⟨(corr2 i).client, (corr2 i).seq, (corr2 i).tick, (corr2 i).moveX, (corr2 i).moveY, false, (corr2 i).aimX, (corr2 i).aimY, (corr2 i).seen, (corr2 i).part⟩ := by unfold corr3; rw [hb2]
          have e2 : fl3 i now = (fl2 i).push 6 := by unfold fl3; rw [hb2]
          have hz : (fl2 i).n ≤ 3 := Nat.le_trans hfn.2.1 (by omega)
          refine And.intro ⟨⟨Nat.le_trans (Nat.add_le_add_right hz 1) (by decide), by show ((fl2 i).n + 1) * 1 ≤ _; omega⟩, fun k hk j => ?_⟩ ?_
          · repeat' (first | (refine And.intro ?_ ?_) | exact trivial | exact rfl)
          have g_client : (corr3 i now).client = (corr2 i).client := by rw [e1]
          have g_seq : (corr3 i now).seq = (corr2 i).seq := by rw [e1]
          have g_tick : (corr3 i now).tick = (corr2 i).tick := by rw [e1]
          have g_moveX : (corr3 i now).moveX = (corr2 i).moveX := by rw [e1]
          have g_moveY : (corr3 i now).moveY = (corr2 i).moveY := by rw [e1]
          have g_fire : (corr3 i now).fire = false := by rw [e1]
          have g_aimX : (corr3 i now).aimX = (corr2 i).aimX := by rw [e1]
          have g_aimY : (corr3 i now).aimY = (corr2 i).aimY := by rw [e1]
          have g_seen : (corr3 i now).seen = (corr2 i).seen := by rw [e1]
          have g_part : (corr3 i now).part = (corr2 i).part := by rw [e1]
          refine ⟨((3 : Nat), true), [(9, 11)], [], by show 0 < 1; omega, by show 3 ≤ 3; omega, ?_⟩
          repeat' (first | (refine And.intro ?_ ?_) | exact rfl | (intro _))
          all_goals first
            | exact g_client
            | exact g_seq
            | exact g_tick
            | exact g_moveX
            | exact g_moveY
            | exact g_fire
            | exact g_aimX
            | exact g_aimY
            | exact g_seen
            | exact g_part
            | exact congrArg Fam.n e2
            | (rename_i j hj; exact Eq.trans (congrFun (congrArg Fam.g e2) j) (pushEq hj))
            | trace_state
      · refine And.intro (fun _ => ⟨by omega, by omega⟩) ?_
        refine And.intro (fun hb1 => ?_) (fun hb1 => ?_)
        · have hb2 : shotOk i now = true := by
            have h9 : shotOk (corr2 i) now = true := hb1
            unfold shotOk at h9 ⊢
            rw [(corr2_same i).2.2.2.1, (corr2_same i).2.2.2.2.1, (corr2_same i).2.2.2.2.2] at h9
            exact h9
          have e1 : corr3 i now = corr2 i := by unfold corr3; rw [hb2]
          have e2 : fl3 i now = fl2 i := by unfold fl3; rw [hb2]
          refine ⟨((3 : Nat), true), [], [], by show 0 < 1; omega, by show 3 ≤ 3; omega, ?_⟩
          repeat' (first | (refine And.intro ?_ ?_) | exact rfl | (intro _))
          all_goals first
            | exact congrArg Input.client e1
            | exact congrArg Input.seq e1
            | exact congrArg Input.tick e1
            | exact congrArg Input.moveX e1
            | exact congrArg Input.moveY e1
            | exact congrArg Input.fire e1
            | exact congrArg Input.aimX e1
            | exact congrArg Input.aimY e1
            | exact congrArg Input.seen e1
            | exact congrArg Input.part e1
            | exact congrArg Fam.n e2
            | exact congrFun (congrArg Fam.g e2) _
            | trace_state
        · have hb2 : shotOk i now = false := by
            have h9 : shotOk (corr2 i) now = false := hb1
            unfold shotOk at h9 ⊢
            rw [(corr2_same i).2.2.2.1, (corr2_same i).2.2.2.2.1, (corr2_same i).2.2.2.2.2] at h9
            exact h9
          have e1 : corr3 i now = ⟨(corr2 i).client, (corr2 i).seq, (corr2 i).tick, (corr2 i).moveX, (corr2 i).moveY, false, (corr2 i).aimX, (corr2 i).aimY, (corr2 i).seen, (corr2 i).part⟩ := by unfold corr3; rw [hb2]
          have e2 : fl3 i now = (fl2 i).push 6 := by unfold fl3; rw [hb2]
          have hz : (fl2 i).n ≤ 3 := Nat.le_trans hfn.2.1 (by omega)
          refine And.intro ⟨⟨Nat.le_trans (Nat.add_le_add_right hz 1) (by decide), by show ((fl2 i).n + 1) * 1 ≤ _; omega⟩, fun k hk j => ?_⟩ ?_
          · repeat' (first | (refine And.intro ?_ ?_) | exact trivial | exact rfl)
          have g_client : (corr3 i now).client = (corr2 i).client := by rw [e1]
          have g_seq : (corr3 i now).seq = (corr2 i).seq := by rw [e1]
          have g_tick : (corr3 i now).tick = (corr2 i).tick := by rw [e1]
          have g_moveX : (corr3 i now).moveX = (corr2 i).moveX := by rw [e1]
          have g_moveY : (corr3 i now).moveY = (corr2 i).moveY := by rw [e1]
          have g_fire : (corr3 i now).fire = false := by rw [e1]
          have g_aimX : (corr3 i now).aimX = (corr2 i).aimX := by rw [e1]
          have g_aimY : (corr3 i now).aimY = (corr2 i).aimY := by rw [e1]
          have g_seen : (corr3 i now).seen = (corr2 i).seen := by rw [e1]
          have g_part : (corr3 i now).part = (corr2 i).part := by rw [e1]
          refine ⟨((3 : Nat), true), [(9, 11)], [], by show 0 < 1; omega, by show 3 ≤ 3; omega, ?_⟩
          repeat' (first | (refine And.intro ?_ ?_) | exact rfl | (intro _))
          all_goals first
            | exact g_client
            | exact g_seq
            | exact g_tick
            | exact g_moveX
            | exact g_moveY
            | exact g_fire
            | exact g_aimX
            | exact g_aimY
            | exact g_seen
            | exact g_part
            | exact congrArg Fam.n e2
            | (rename_i j hj; exact Eq.trans (congrFun (congrArg Fam.g e2) j) (pushEq hj))
            | trace_state
    · cases b
      all_goals
        refine ⟨(), [], [.freeze 5, .freeze 8], trivial, trivial, ?_⟩
        repeat' (first | (refine And.intro ?_ ?_) | exact rfl | (intro _))
        all_goals first
          | (rename_i j hj; show _ = (w.took now i).times.g (0 + j); rw [Nat.zero_add])
          | (rename_i j hj; show _ = (fl3 i now).g (0 + j); rw [Nat.zero_add]; rfl)
          | trace_state
  refine fun _ _ => ?_
  have hfit2 : (w.took now i).Fit := ⟨c0, c1, c2, c3, c4, c5, c6, p0, p1⟩
  have hfl := fl_ok i now
  have hfn := fl_n i now
  refine And.intro ?_ ?_
  · repeat' (first | (refine And.intro ?_ ?_) | exact hfit2 | exact hfl | exact trivial | exact rfl | (intro _))
    show ((fl3 i now).n : Int) ≤ 1000000
    omega
  repeat' (first | (refine And.intro ?_ ?_) | exact rfl | (intro _))

noncomputable def conCheck : Con cx := walkCon 18 Tryz.call18 (rds3 rdWatch (rdI .i64) rdInput) (fun a => [(a.1.times.n : Int) ≤ 1000000, a.2.2.In]) (fun a => (check a.1 a.2.1 a.2.2).sv) (fun _ => ⟨[22], [4, 22], [16], 4⟩) [22] (fun _ => rfl) follows Tryz.func18 (by kernel_rfl) check_walk
end Go.Proofs.YtbnoejabpmlmdaaGreatDoor.Df
