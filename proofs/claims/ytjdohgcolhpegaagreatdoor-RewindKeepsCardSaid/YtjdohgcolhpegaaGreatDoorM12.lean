/- cast.First; Contains; the closure of Blind. Sums of small numbers. vec.Add; step.Bodies. What Blind yields; lists of bodies that agree. -/
import Derived.Test.YtjdohgcolhpegaaGreatDoorM11
import Derived.Test.YtjdohgcolhpegaaGreatDoorM10
namespace Go.Proofs.YtjdohgcolhpegaaGreatDoor
open Go.RowKit

def firstE (n : Nat) (F : Nat → Body) (p q : Vec) : Int × Int := match decide (hitsErr n F p q = 0) && decide (((hitsE n F p q).length : Int) = 0) with
  | true => (0, 6)
  | false => match decide (¬ hitsErr n F p q = 0) with
    | true => (0, hitsErr n F p q)
    | false => ((hitsE n F p q).getD 0 0, 0)
set_option maxHeartbeats 4000000 in
set_option maxRecDepth 8000 in
theorem First_walk : ∀ a, conj ((fun (a : (Nat × (Nat → Body)) × Vec × Vec) => [(a.1.1 : Int) ≤ 1000000, hitsErr a.1.1 a.1.2 a.2.1 a.2.2 = 0 → (idsK a.1.2 a.2.1 a.2.2 a.1.1).length ≤ 20]) a) → evFn (C := cx) [conHits] [] 0 noHow Tryz.f39 (((rds3 rdBodies rdVec rdVec)).enc a) fun v H _ => resOut ((fun (a : (Nat × (Nat → Body)) × Vec × Vec) => .tup [.v (.int .i64 (firstE a.1.1 a.1.2 a.2.1 a.2.2).1), .v (.int .i64 (firstE a.1.1 a.1.2 a.2.1 a.2.2).2)]) a) H v := by
  intro ⟨⟨n, F⟩, p, q⟩ ⟨h1, h2⟩
  replace h1 : (n : Int) ≤ 1000000 := h1
  replace h2 : hitsErr n F p q = 0 → (idsK F p q n).length ≤ 20 := h2
  refine And.intro ⟨fun _ _ => trivial, h1, h2⟩ ?_
  refine And.intro (fun hc => ?_) (fun hc => ?_)
  · have hc : (decide (hitsErr n F p q = 0) && decide (((hitsE n F p q).length : Int) = 0)) = true := hc
    have he : firstE n F p q = (0, 6) := by unfold firstE; rw [hc]
    simp only [he]
    repeat' (first | (refine And.intro ?_ ?_) | (intro _) | exact rfl)
  · have hc : (decide (hitsErr n F p q = 0) && decide (((hitsE n F p q).length : Int) = 0)) = false := hc
    refine And.intro (fun hd => ?_) (fun hd => ?_)
    · have hd : decide (¬ hitsErr n F p q = 0) = true := hd
      have he : firstE n F p q = (0, hitsErr n F p q) := by unfold firstE; rw [hc, hd]
      simp only [he]
      repeat' (first | (refine And.intro ?_ ?_) | (intro _) | exact rfl)
    · have hd : decide (¬ hitsErr n F p q = 0) = false := hd
      have he : firstE n F p q = ((hitsE n F p q).getD 0 0, 0) := by unfold firstE; rw [hc, hd]
      have h0 : hitsErr n F p q = 0 := by simpa using hd
      have hlen : 0 < (hitsE n F p q).length := by
        rw [h0] at hc
        simp at hc
        exact Nat.pos_of_ne_zero fun e => hc (List.length_eq_zero_iff.1 e)
      simp only [he]
      refine And.intro (⟨by decide, by omega⟩ : (0 : Int) ≤ 0 ∧ (0 : Int) < (hitsE n F p q).length) ?_
      repeat' (first | (refine And.intro ?_ ?_) | (intro _) | exact rfl)
noncomputable def conFirst : Con cx := walkCon 39 Tryz.call39 (rds3 rdBodies rdVec rdVec) (fun (a : (Nat × (Nat → Body)) × Vec × Vec) => [(a.1.1 : Int) ≤ 1000000, hitsErr a.1.1 a.1.2 a.2.1 a.2.2 = 0 → (idsK a.1.2 a.2.1 a.2.2 a.1.1).length ≤ 20]) (fun (a : (Nat × (Nat → Body)) × Vec × Vec) => .tup [.v (.int .i64 (firstE a.1.1 a.1.2 a.2.1 a.2.2).1), .v (.int .i64 (firstE a.1.1 a.1.2 a.2.1 a.2.2).2)]) (fun _ => noHow) [] (fun _ => rfl) follows Tryz.func39 (by kernel_rfl) First_walk
def famS (f : Fam) : SV := .rs 1 f.n fun i => [.v (.int .i64 (f.g i))]
/-- Is a number in a list? -/
def inF (f : Fam) (v : Int) : Bool := anyN (fun i => decide (v = f.g i)) 0 f.n
def ctC (f : Fam) (v : Int) : Cut := ⟨Nat, fun k => k ≤ f.n ∧ anyN (fun i => decide (v = f.g i)) 0 f.n = anyN (fun i => decide (v = f.g i)) k (f.n - k),
  fun k => ⟨[sl 0 (famS f), sl 1 (i64 v), sl 7 (i64 f.n), sl 8 (i64 k)], [], 0, 0, [], []⟩, fun k => f.n - k⟩
/-- The list that a closure has captured. -/
def rpF : SV → Fam
  | .rp (y :: _) _ => ⟨y.rn, fun i => (hdS (y.rf i)).iv⟩
  | _ => ⟨0, fun _ => 0⟩
def kxF : SV → Fam
  | .f _ _ (y :: _) => rpF y
  | _ => ⟨0, fun _ => 0⟩
end Go.Proofs.YtjdohgcolhpegaaGreatDoor
namespace Go.Proofs.YtjdohgcolhpegaaGreatDoor.Df
open Go.RowKit

def Sz.Sm (s : Sz) : Prop := s.hi = 0 ∧ 0 ≤ s.lo ∧ s.lo < 9223372036854775808
def smallI (x : Int) : Prop := -1152921504606846976 ≤ x ∧ x ≤ 1152921504606846976
theorem wSat_of {x : Int} : wSat (wOf x) = x := by
  unfold wSat wOf
  dsimp only
  by_cases h : x < 0
  · rw [decide_eq_true h, if_pos rfl]; omega
  · rw [decide_eq_false h, if_neg (by decide)]; omega
def partI (x y : Int) : Nat → Int
  | 0 => 0
  | 1 => x
  | _ => x + y
def nextI (x y : Int) : Nat → Int
  | 0 => x
  | _ => y
theorem part_next {x y : Int} {k : Nat} (h : k < 2) : partI x y (k + 1) = partI x y k + nextI x y k := by
  match k, h with
  | 0, _ => show x = 0 + x; omega
  | 1, _ => rfl
theorem mkn (b : Bool) (l : Int) : (b && !(decide ((0 : Int) = 0) && decide (l = 0))) = (b && !decide (l = 0)) := by simp
theorem wMade_of {l v : Int} {b : Bool} (h1 : l = v.natAbs) (h2 : (b = true ∧ ¬ l = 0) ↔ v < 0) : wMade ⟨0, l⟩ b = wOf v := by
  unfold wMade wOf
  congr 1
  dsimp only
  rw [mkn, Bool.eq_iff_iff, Bool.and_eq_true, Bool.not_eq_true', decide_eq_false_iff_not, decide_eq_true_eq]
  exact h2
theorem made_same {s y : Int} (h : decide (s < 0) = decide (y < 0)) : wMade ⟨0, (s.natAbs : Int) + y.natAbs⟩ (decide (s < 0)) = wOf (s + y) := by
  have h := decide_eq_decide.1 h
  refine wMade_of (by omega) ?_
  rw [decide_eq_true_eq]
  omega
theorem made_less {s y : Int} (h : ¬ decide (s < 0) = decide (y < 0)) (hl : (s.natAbs : Int) < y.natAbs) : wMade ⟨0, (y.natAbs : Int) - s.natAbs⟩ (decide (y < 0)) = wOf (s + y) := by
  have h : ¬ (s < 0 ↔ y < 0) := fun c => h (decide_eq_decide.2 c)
  refine wMade_of (by omega) ?_
  rw [decide_eq_true_eq]
  omega
theorem made_more {s y : Int} (h : ¬ decide (s < 0) = decide (y < 0)) (hl : ¬ (s.natAbs : Int) < y.natAbs) : wMade ⟨0, (s.natAbs : Int) - y.natAbs⟩ (decide (s < 0)) = wOf (s + y) := by
  have h : ¬ (s < 0 ↔ y < 0) := fun c => h (decide_eq_decide.2 c)
  refine wMade_of (by omega) ?_
  rw [decide_eq_true_eq]
  omega
set_option maxHeartbeats 2000000 in
set_option maxRecDepth 8000 in
theorem PlusS_walk : ∀ a, conj ((fun a => [a.1.Sm, a.2.Sm]) a) → evFn (C := cx) [] [] 0 noHow Tryz.f127 ((rds2 rdSz rdSz).enc a) fun v H _ => resOut ((fun a => (Sz.mk 0 (a.1.lo + a.2.lo)).sv) a) H v := by
  intro ⟨s, t⟩ ⟨h1, h2⟩
  obtain ⟨a1, a2, a3⟩ : s.Sm := h1
  obtain ⟨b1, b2, b3⟩ : t.Sm := h2
  repeat' (first | (refine And.intro ?_ ?_) | (intro _))
  all_goals (try (refine Eq.trans ?_ rfl))
  all_goals (try simp only [rds1, rds2, rds3, rdSz, rdW, rdB, rdI, rdVec, Vec.of, rdWF, W.ofL, SV.rf, Sz.of, W.of, hdS, tlS, SV.al, SV.iv, SV.bv, constSV, decide_eq_true_eq, decide_eq_false_iff_not] at *)
  all_goals (try simp only [wu] at *)
  all_goals first | omega | trace_state
noncomputable def conPlusS : Con cx := walkCon 127 Tryz.call127 (rds2 rdSz rdSz) (fun a => [a.1.Sm, a.2.Sm]) (fun a => (Sz.mk 0 (a.1.lo + a.2.lo)).sv) (fun _ => noHow) [] (fun _ => rfl) follows Tryz.func127 (by kernel_rfl) PlusS_walk
set_option maxHeartbeats 2000000 in
set_option maxRecDepth 8000 in
theorem MinusS_walk : ∀ a, conj ((fun a => [a.1.Sm, a.2.Sm, a.2.lo ≤ a.1.lo]) a) → evFn (C := cx) [] [] 0 noHow Tryz.f130 ((rds2 rdSz rdSz).enc a) fun v H _ => resOut ((fun a => (Sz.mk 0 (a.1.lo - a.2.lo)).sv) a) H v := by
  intro ⟨s, t⟩ ⟨h1, h2, h3⟩
  obtain ⟨a1, a2, a3⟩ : s.Sm := h1
  obtain ⟨b1, b2, b3⟩ : t.Sm := h2
  replace h3 : t.lo ≤ s.lo := h3
  repeat' (first | (refine And.intro ?_ ?_) | (intro _))
  all_goals (try (refine Eq.trans ?_ rfl))
  all_goals (try simp only [rds1, rds2, rds3, rdSz, rdW, rdB, rdI, rdVec, Vec.of, rdWF, W.ofL, SV.rf, Sz.of, W.of, hdS, tlS, SV.al, SV.iv, SV.bv, constSV, decide_eq_true_eq, decide_eq_false_iff_not] at *)
  all_goals (try simp only [wu] at *)
  all_goals first | omega | trace_state
noncomputable def conMinusS : Con cx := walkCon 130 Tryz.call130 (rds2 rdSz rdSz) (fun a => [a.1.Sm, a.2.Sm, a.2.lo ≤ a.1.lo]) (fun a => (Sz.mk 0 (a.1.lo - a.2.lo)).sv) (fun _ => noHow) [] (fun _ => rfl) follows Tryz.func130 (by kernel_rfl) MinusS_walk
theorem two_al {p : Nat → Prop} (h0 : p 0) (h1 : p 1) : ∀ i, i < 2 → p i := fun i hi => by
  match i, hi with
  | 0, _ => exact h0
  | 1, _ => exact h1
def smSumC (g : Nat → W) (x y : Int) : Cut := ⟨Nat, fun k => k ≤ 2, fun k => ⟨[sl 2 (.p 0 0), sl 3 (.p 1 0), sl 7 (.rs 3 2 fun i => (g i).cells), sl 8 (.v (.int .i64 2)), sl 9 (.v (.int .i64 k))],
  [(0, .lay [.il .u64 0, .il .u64 0, .bl false] 171), (1, .lay (wOf (partI x y k)).cells 171)], 2, 0, [], []⟩, fun k => 2 - k⟩
theorem sz_sm {x : Int} (h : -2305843009213693952 ≤ x ∧ x ≤ 2305843009213693952) : Sz.Sm ⟨0, x.natAbs⟩ := by
  unfold Sz.Sm
  refine ⟨rfl, ?_, ?_⟩ <;> (dsimp only; omega)
set_option maxHeartbeats 2000000 in
set_option maxRecDepth 8000 in
theorem SumS_walk : ∀ a, conj ((fun a => [a.n = 2, ∃ x y, smallI x ∧ smallI y ∧ a.g 0 = wOf x ∧ a.g 1 = wOf y]) a) → evFn (C := cx) [conMade, conPlusS, conMinusS, conSLess] [] 0 ⟨[], [], [3], 0⟩ Tryz.f114 ((rds1 rdWF).enc a) fun v H _ => resOut ((fun a => (wOf (wSat (a.g 0) + wSat (a.g 1))).sv) a) H v := by
  intro ⟨n, g⟩ ⟨hn, hg⟩
  replace hn : n = 2 := hn
  subst hn
  obtain ⟨x, y, hx, hy, g0, g1⟩ : ∃ x y, smallI x ∧ smallI y ∧ g 0 = wOf x ∧ g 1 = wOf y := hg
  unfold smallI at hx hy
  have ex : wSat (g 0) = x := by rw [g0, wSat_of]
  have ey : wSat (g 1) = y := by rw [g1, wSat_of]
  have gk : ∀ k, k < 2 → g k = wOf (nextI x y k) := fun k hk => by
    match k, hk with
    | 0, _ => exact g0
    | 1, _ => exact g1
  have pk : ∀ k, k ≤ 2 → -2305843009213693952 ≤ partI x y k ∧ partI x y k ≤ 2305843009213693952 := fun k hk => by
    match k, hk with
    | 0, _ => show (_ : Int) ≤ 0 ∧ (0 : Int) ≤ _; omega
    | 1, _ => show (_ : Int) ≤ x ∧ x ≤ _; omega
    | 2, _ => show (_ : Int) ≤ x + y ∧ x + y ≤ _; omega
  have nk : ∀ k, -2305843009213693952 ≤ nextI x y k ∧ nextI x y k ≤ 2305843009213693952 := fun k => by
    match k with
    | 0 => show (_ : Int) ≤ x ∧ x ≤ _; omega
    | n + 1 => show (_ : Int) ≤ y ∧ y ≤ _; omega
  show evFn (C := cx) _ _ _ _ _ _ fun v H _ => resOut (wOf (wSat (g 0) + wSat (g 1))).sv H v
  rw [ex, ey]
  refine Exists.intro (smSumC g x y) ?_
  refine And.intro ?_ ?_
  · refine ⟨(0 : Nat), [], [], trivial, Nat.zero_le _, ?_⟩
    repeat' (first | (refine And.intro ?_ ?_) | (intro _) | exact rfl)
  refine fun (k : Nat) (hk : k ≤ 2) => ?_
  refine And.intro (fun hb => ?_) (fun hb => ?_)
  · have hb : (k : Int) < 2 := of_decide_eq_true hb
    have hk2 : k < 2 := by omega
    have e1 := gk k hk2
    have p1 := pk k hk
    have n1 := nk k
    have pn := part_next (x := x) (y := y) hk2
    refine And.intro ⟨by omega, hb⟩ ?_
    have gs : Sz.Sm ⟨(g k).hi, (g k).lo⟩ := by rw [e1]; exact sz_sm n1
    have p2 := sz_sm p1
    refine And.intro (fun hc => ?_) (fun hc => ?_)
    · have hc : ((wOf (partI x y k)).neg == (g k).neg) = true := hc
      rw [e1] at hc
      have hc : decide (partI x y k < 0) = decide (nextI x y k < 0) := eq_of_beq hc
      have em : wOf (partI x y (k + 1)) = wMade ⟨0, (wOf (partI x y k)).lo + (g k).lo⟩ (wOf (partI x y k)).neg := by rw [pn, e1]; exact (made_same hc).symm
      refine And.intro ⟨p2, gs⟩ ?_
      refine And.intro (by unfold I64; omega : I64 ((k : Int) + 1)) ?_
      refine ⟨k + 1, [], [], (by show 2 - (k + 1) < 2 - k; omega), (by omega : k + 1 ≤ 2), ?_⟩
      repeat' (first | (refine And.intro ?_ ?_) | (intro _) | exact rfl)
      all_goals first | exact congrArg W.hi em | exact congrArg W.lo em | exact congrArg W.neg em
    · have hc : ((wOf (partI x y k)).neg == (g k).neg) = false := hc
      rw [e1] at hc
      have hc : ¬ decide (partI x y k < 0) = decide (nextI x y k < 0) := fun c => by
        have : ((wOf (partI x y k)).neg == (wOf (nextI x y k)).neg) = true := beq_iff_eq.2 c
        rw [this] at hc
        cases hc
      refine And.intro (fun hd => ?_) (fun hd => ?_)
      · have hd : szLess ⟨(wOf (partI x y k)).hi, (wOf (partI x y k)).lo⟩ ⟨(g k).hi, (g k).lo⟩ = true := hd
        rw [e1] at hd
        have hd : ((partI x y k).natAbs : Int) < (nextI x y k).natAbs := by
          simpa [szLess, wOf] using hd
        have em : wOf (partI x y (k + 1)) = wMade ⟨0, (g k).lo - (wOf (partI x y k)).lo⟩ (g k).neg := by rw [pn, e1]; exact (made_less hc hd).symm
        have q : (wOf (partI x y k)).lo ≤ (g k).lo := by rw [e1]; exact Int.le_of_lt hd
        refine And.intro ⟨gs, p2, q⟩ ?_
        refine And.intro (by unfold I64; omega : I64 ((k : Int) + 1)) ?_
        refine ⟨k + 1, [], [], (by show 2 - (k + 1) < 2 - k; omega), (by omega : k + 1 ≤ 2), ?_⟩
        repeat' (first | (refine And.intro ?_ ?_) | (intro _) | exact rfl)
        all_goals first | exact congrArg W.hi em | exact congrArg W.lo em | exact congrArg W.neg em
      · have hd : szLess ⟨(wOf (partI x y k)).hi, (wOf (partI x y k)).lo⟩ ⟨(g k).hi, (g k).lo⟩ = false := hd
        rw [e1] at hd
        have hd : ¬ ((partI x y k).natAbs : Int) < (nextI x y k).natAbs := by
          simpa [szLess, wOf] using hd
        have em : wOf (partI x y (k + 1)) = wMade ⟨0, (wOf (partI x y k)).lo - (g k).lo⟩ (wOf (partI x y k)).neg := by rw [pn, e1]; exact (made_more hc hd).symm
        have q : (g k).lo ≤ (wOf (partI x y k)).lo := by rw [e1]; exact Int.not_lt.1 hd
        refine And.intro ⟨p2, gs, q⟩ ?_
        refine And.intro (by unfold I64; omega : I64 ((k : Int) + 1)) ?_
        refine ⟨k + 1, [], [], (by show 2 - (k + 1) < 2 - k; omega), (by omega : k + 1 ≤ 2), ?_⟩
        repeat' (first | (refine And.intro ?_ ?_) | (intro _) | exact rfl)
        all_goals first | exact congrArg W.hi em | exact congrArg W.lo em | exact congrArg W.neg em
  · obtain rfl : k = 2 := by simp only [decide_eq_false_iff_not] at hb; omega
    repeat' (first | (refine And.intro ?_ ?_) | (intro _) | exact rfl)
noncomputable def conSumS : Con cx := walkCon 114 Tryz.call114 (rds1 rdWF) (fun a => [a.n = 2, ∃ x y, smallI x ∧ smallI y ∧ a.g 0 = wOf x ∧ a.g 1 = wOf y]) (fun a => (wOf (wSat (a.g 0) + wSat (a.g 1))).sv) (fun _ => ⟨[], [], [3], 0⟩) [] (fun _ => rfl) follows Tryz.func114 (by kernel_rfl) SumS_walk
end Go.Proofs.YtjdohgcolhpegaaGreatDoor.Df
namespace Go.Proofs.YtjdohgcolhpegaaGreatDoor
open Go.RowKit

/-- The bodies of a world. -/
def bodiesL (l : Ens) (k : Nat) : List Body := filtM (fun i => (bodyF (l.e i)).1) (fun i => (bodyF (l.e i)).2) k
def bodG (L : List Body) (i : Nat) : Body := L.getD i Body.no
def zeroSc : List SV := [.v (.slice none 0 0), .v (.slice none 0 0), .il .i64 0, .il .i64 0]
def bodC (l : Ens) (x y : Int) : Cut := ⟨Nat, fun k => k ≤ l.n, fun k => ⟨[sl 1 (.v (.slice none 0 0)), sl 6 (.p 2 0), sl 7 (.p 3 0), sl 18 l.sv, sl 19 (i64 l.n), sl 20 (i64 k)],
  [(2, .lay zeroSc 64), (3, .lay [.g 4 5 9 0 (bodiesL l k).length, .v (.slice none 0 0), .v (.int .i64 x), .v (.int .i64 y)] 64), (4, .lst 5 9 (bodiesL l k).length (fun i => (bodG (bodiesL l k) i).cells) 60)], 6, 0, [], []⟩, fun k => l.n - k⟩
def Body.Eq (a b : Body) : Prop := a.iD = b.iD ∧ a.posX = b.posX ∧ a.posY = b.posY ∧ a.velX = b.velX ∧ a.velY = b.velY ∧ a.w = b.w ∧ a.h = b.h ∧ a.round = b.round ∧ a.fixed = b.fixed
theorem body_eqs {a b : Body} (h : a = b) : a.Eq b := by subst h; exact ⟨rfl, rfl, rfl, rfl, rfl, rfl, rfl, rfl, rfl⟩
set_option maxHeartbeats 2000000 in
set_option maxRecDepth 8000 in
theorem Bodies_walk : ∀ a, conj ((fun a => [a.1.l.Sm, a.1.l.n ≤ 1000, a.2.1 = .v (.slice none 0 0)]) a) → evFn (C := cx) [conBody] [] 0 ⟨[], [], [3], 1⟩ Tryz.f22 ((rds3 rdWor rdX rdVec).enc a) fun v H _ => resOutF ((fun a => .agg [.rs 9 (bodiesL a.1.l a.1.l.n).length (fun i => (bodG (bodiesL a.1.l a.1.l.n) i).cells), .v (.slice none 0 0), .v (.int .i64 a.2.2.x), .v (.int .i64 a.2.2.y)]) a) H v := by
  intro ⟨w, x, g⟩ ⟨hm, hn, hx⟩
  replace hm : w.l.Sm := hm
  replace hn : w.l.n ≤ 1000 := hn
  replace hx : x = .v (.slice none 0 0) := hx
  subst hx
  refine Exists.intro (bodC w.l g.x g.y) ?_
  refine And.intro ?_ ?_
  · refine ⟨(0 : Nat), [], [.cell2 3 0 9 60], trivial, Nat.zero_le _, ?_⟩
    repeat' (first | (refine And.intro ?_ ?_) | (intro _) | exact rfl)
    all_goals exact absurd ‹_ < 0› (Nat.not_lt_zero _)
  refine fun (k : Nat) (hk : k ≤ w.l.n) => ?_
  refine And.intro (fun hb => ?_) (fun hb => ?_)
  · have hb : (k : Int) < w.l.n := of_decide_eq_true hb
    have hkl : ((w.l.e k).l.n : Int) ≤ bigN := (hm.2 k (by omega)).1
    refine And.intro ⟨by omega, by omega⟩ ?_
    refine And.intro ⟨fun _ _ => trivial, hkl⟩ ?_
    refine And.intro (fun hc => ?_) (fun hc => ?_)
    · have hc : (bodyF (w.l.e k)).2 = true := hc
      have hlen := filtM_len (f := fun i => (bodyF (w.l.e i)).1) (g := fun i => (bodyF (w.l.e i)).2) k
      have ey := filtM_yes (f := fun i => (bodyF (w.l.e i)).1) (g := fun i => (bodyF (w.l.e i)).2) hc
      have em : ∀ i, i < (bodiesL w.l k).length + 1 → bodG (bodiesL w.l (k + 1)) i = bif Nat.ble (bodiesL w.l k).length i then (bodyF (w.l.e k)).1 else bodG (bodiesL w.l k) i := fun i hi => (congrArg (fun l => bodG l i) ey).trans (pushM _ _ hi)
      have hfit : fitO ((bodiesL w.l k).length + 1) 64 := ⟨Nat.le_trans (by unfold bodiesL; omega : (bodiesL w.l k).length + 1 ≤ 1001) (by decide), by unfold bodiesL; omega⟩
      refine And.intro ⟨hfit, fun _ _ _ => ⟨rfl, rfl, rfl, rfl, rfl, rfl, rfl, trivial, trivial, trivial⟩⟩ ?_
      refine And.intro (by unfold I64; omega : I64 ((k : Int) + 1)) ?_
      refine ⟨k + 1, [(5, 9)], [], (by show w.l.n - (k + 1) < w.l.n - k; omega), (by omega : k + 1 ≤ w.l.n), ?_⟩
      repeat' (first | (refine And.intro ?_ ?_) | (intro _) | exact rfl)
      all_goals first | exact (congrArg List.length ey).trans List.length_append | exact (congrArg Body.iD (em _ ‹_›)).trans (apply_bif Body.iD) | exact (congrArg Body.posX (em _ ‹_›)).trans (apply_bif Body.posX) | exact (congrArg Body.posY (em _ ‹_›)).trans (apply_bif Body.posY) | exact (congrArg Body.velX (em _ ‹_›)).trans (apply_bif Body.velX) | exact (congrArg Body.velY (em _ ‹_›)).trans (apply_bif Body.velY) | exact (congrArg Body.w (em _ ‹_›)).trans (apply_bif Body.w) | exact (congrArg Body.h (em _ ‹_›)).trans (apply_bif Body.h) | exact (congrArg Body.round (em _ ‹_›)).trans (apply_bif Body.round) | exact (congrArg Body.fixed (em _ ‹_›)).trans (apply_bif Body.fixed)
    · have hc : (bodyF (w.l.e k)).2 = false := hc
      have ey := filtM_no (f := fun i => (bodyF (w.l.e i)).1) (g := fun i => (bodyF (w.l.e i)).2) hc
      refine And.intro (by unfold I64; omega : I64 ((k : Int) + 1)) ?_
      refine ⟨k + 1, [], [], (by show w.l.n - (k + 1) < w.l.n - k; omega), (by omega : k + 1 ≤ w.l.n), ?_⟩
      repeat' (first | (refine And.intro ?_ ?_) | (intro _) | exact rfl)
      all_goals first | exact congrArg List.length ey | exact congrArg (fun l => (bodG l _).iD) ey | exact congrArg (fun l => (bodG l _).posX) ey | exact congrArg (fun l => (bodG l _).posY) ey | exact congrArg (fun l => (bodG l _).velX) ey | exact congrArg (fun l => (bodG l _).velY) ey | exact congrArg (fun l => (bodG l _).w) ey | exact congrArg (fun l => (bodG l _).h) ey | exact congrArg (fun l => (bodG l _).round) ey | exact congrArg (fun l => (bodG l _).fixed) ey
  · have hb : ¬ (k : Int) < w.l.n := of_decide_eq_false hb
    obtain rfl : k = w.l.n := by omega
    refine And.intro (fun _ _ => rfl) ?_
    repeat' (first | (refine And.intro ?_ ?_) | (intro _) | exact rfl)
    all_goals first | exact congrArg (fun i => (bodG (bodiesL w.l w.l.n) i).iD) (Nat.zero_add _).symm | exact congrArg (fun i => (bodG (bodiesL w.l w.l.n) i).posX) (Nat.zero_add _).symm | exact congrArg (fun i => (bodG (bodiesL w.l w.l.n) i).posY) (Nat.zero_add _).symm | exact congrArg (fun i => (bodG (bodiesL w.l w.l.n) i).velX) (Nat.zero_add _).symm | exact congrArg (fun i => (bodG (bodiesL w.l w.l.n) i).velY) (Nat.zero_add _).symm | exact congrArg (fun i => (bodG (bodiesL w.l w.l.n) i).w) (Nat.zero_add _).symm | exact congrArg (fun i => (bodG (bodiesL w.l w.l.n) i).h) (Nat.zero_add _).symm | exact congrArg (fun i => (bodG (bodiesL w.l w.l.n) i).round) (Nat.zero_add _).symm | exact congrArg (fun i => (bodG (bodiesL w.l w.l.n) i).fixed) (Nat.zero_add _).symm
noncomputable def conBodies : Con cx := walkConF 22 Tryz.call22 (rds3 rdWor rdX rdVec) (fun a => [a.1.l.Sm, a.1.l.n ≤ 1000, a.2.1 = .v (.slice none 0 0)]) (fun a => .agg [.rs 9 (bodiesL a.1.l a.1.l.n).length (fun i => (bodG (bodiesL a.1.l a.1.l.n) i).cells), .v (.slice none 0 0), .v (.int .i64 a.2.2.x), .v (.int .i64 a.2.2.y)]) (fun _ => ⟨[], [], [3], 1⟩) [] (fun _ => rfl) follows Tryz.func22 (by kernel_rfl) Bodies_walk
end Go.Proofs.YtjdohgcolhpegaaGreatDoor
namespace Go.Proofs.YtjdohgcolhpegaaGreatDoor
open Go.RowKit

theorem hasK_congr {F G : Nat → Body} {p q : Vec} {n : Nat} (h : ∀ i, i < n → F i = G i) : idsK F p q n = idsK G p q n ∧ plK F p q n = plK G p q n := by
  induction n with
  | zero => exact ⟨rfl, rfl⟩
  | succ n ih =>
    obtain ⟨h1, h2⟩ := ih fun i hi => h i (by omega)
    have e := h n (by omega)
    constructor
    · simp only [idsK, metB, e, h1]
    · funext j
      simp only [plK, metB, e, h2]
theorem unsN_congr {F G : Nat → Body} : ∀ {r k : Nat}, 1 ≤ k → (∀ i, i < k + r → F i = G i) → unsN F k r = unsN G k r
  | 0, k, _, _ => rfl
  | r + 1, k, h1, h => by
    simp only [unsN, h k (by omega), h (k - 1) (by omega)]
    rw [unsN_congr (by omega) fun i hi => h i (by omega)]
theorem badN_congr {F G : Nat → Body} : ∀ {r k : Nat}, (∀ i, i < k + r → F i = G i) → badN F k r = badN G k r
  | 0, k, _ => rfl
  | r + 1, k, h => by
    simp only [badN, h k (by omega)]
    rw [badN_congr fun i hi => h i (by omega)]
theorem hits_congr {F G : Nat → Body} {p q : Vec} {n : Nat} (h : ∀ i, i < n → F i = G i) : hitsErr n F p q = hitsErr n G p q ∧ hitsE n F p q = hitsE n G p q := by
  obtain ⟨h1, h2⟩ := hasK_congr (p := p) (q := q) h
  have e : hitsErr n F p q = hitsErr n G p q := by
    unfold hitsErr wrongE
    rw [badN_congr (F := F) (G := G) fun i hi => h i (by omega)]
    cases n with
    | zero => rfl
    | succ n => rw [unsN_congr (F := F) (G := G) (Nat.le_refl 1) fun i hi => h i (by omega)]
  refine ⟨e, ?_⟩
  unfold hitsE hitsL
  have e2 : ltK n F p q = ltK n G p q := by
    funext x y
    unfold ltK
    rw [h2]
  rw [e, e2, h1]
theorem first_congr {F G : Nat → Body} {p q : Vec} {n : Nat} (h : ∀ i, i < n → F i = G i) : firstE n F p q = firstE n G p q := by
  obtain ⟨h1, h2⟩ := hits_congr (p := p) (q := q) h
  unfold firstE
  rw [h1, h2]
section
variable {α : Type} {f : Nat → α} {g : Nat → Bool}
/-- Ahead of the first that is left out. -/
theorem filtM_pre {d : α} : ∀ {k : Nat}, (∀ i, i < k → g i = true) → (filtM f g k).length = k ∧ ∀ i, i < k → (filtM f g k).getD i d = f i
  | 0, _ => ⟨rfl, fun i hi => by omega⟩
  | k + 1, h => by
    obtain ⟨h1, h2⟩ := filtM_pre (d := d) (k := k) fun i hi => h i (by omega)
    have e := filtM_yes (f := f) (g := g) (h k (by omega))
    refine ⟨by rw [e, List.length_append, h1]; rfl, fun i hi => ?_⟩
    rw [e, pushM _ _ (by omega), h1]
    rcases Nat.lt_or_ge i k with c | c
    · rw [show Nat.ble k i = false by cases hb : Nat.ble k i with | false => rfl | true => exact absurd (Nat.le_of_ble_eq_true hb) (by omega)]
      exact h2 i c
    · rw [show Nat.ble k i = true from Nat.ble_eq_true_of_le c, show i = k by omega]
      rfl
end
def othL (L : List Body) (f : Fam) (k : Nat) : List Body := filtM (fun i => bodG L i) (fun i => !inF f (bodG L i).iD) k
def blindFrom (w : Wor) (sh : Int) : Vec := ⟨(getE w sh 1).1.v0, (getE w sh 1).1.v1⟩
def blindTo (w : Wor) (sh : Int) (i : Df.Input) : Vec := ⟨(getE w sh 1).1.v0 + i.aimX, (getE w sh 1).1.v1 + i.aimY⟩
def blindBad (w : Wor) (i : Df.Input) : Bool := opB w i.client || Df.beyond ⟨i.aimX, i.aimY⟩ 8192
def blindOwn (w : Wor) (i : Df.Input) : Fam := famL (ownE w i.client).1
def blindNone (w : Wor) (sh : Int) (i : Df.Input) : Bool := !(getE w sh 1).2 || !inF (blindOwn w i) sh
def blindL (w : Wor) (i : Df.Input) : List Body := othL (bodiesL w.l w.l.n) (blindOwn w i) (bodiesL w.l w.l.n).length
def blindHit (w : Wor) (sh : Int) (i : Df.Input) : Int × Int := firstE (blindL w i).length (bodG (blindL w i)) (blindFrom w sh) (blindTo w sh i)
def blindE (w : Wor) (sh : Int) (i : Df.Input) : Int × Int := match blindBad w i with
  | true => (0, 2)
  | false => match blindNone w sh i with
    | true => (0, 6)
    | false => match decide (¬ (blindHit w sh i).2 = 0) with
      | true => (0, 0)
      | false => match decide ((seesE w i.client (blindHit w sh i).1).2 = 0) && (seesE w i.client (blindHit w sh i).1).1 with
        | true => (0, 0)
        | false => ((blindHit w sh i).1, 0)
end Go.Proofs.YtjdohgcolhpegaaGreatDoor
