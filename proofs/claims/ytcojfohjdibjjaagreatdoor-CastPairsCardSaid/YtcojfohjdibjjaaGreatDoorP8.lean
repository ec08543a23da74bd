/- The reference's Meets. The reference's Part. The reference's Before. -/
import Derived.Test.YtcojfohjdibjjaaGreatDoorP7
import Derived.Test.YtcojfohjdibjjaaGreatDoorQ3
import Derived.Test.YtcojfohjdibjjaaGreatDoorQ9
import Derived.Test.YtcojfohjdibjjaaGreatDoorQ4
namespace Go.Proofs.YtcojfohjdibjjaaGreatDoor
open Go.RowKit

def chkB (b : Body) (p q : Vec) : Bool := !b.ok || !p.inB || !q.inB || !shortB p q
theorem chk_ok {b : Body} {p q : Vec} (h : chkB b p q = false) : b.ok = true ∧ p.In ∧ q.In ∧ shortB p q = true := by
  unfold chkB at h
  simp only [Bool.or_eq_false_iff, Bool.not_eq_false'] at h
  exact ⟨h.1.1.1, Vec.In.of h.1.1.2, Vec.In.of h.1.2, h.2⟩
theorem meets_bad {b : Body} {p q : Vec} (h : chkB b p q = true) : meetsB b p q = false := by
  unfold meetsB
  split
  · rfl
  · rename_i k
    obtain ⟨k1, k2, k3, k4⟩ := one_ok (by simpa using k)
    unfold chkB at h
    rw [k3, Vec.inB_of k1, Vec.inB_of k2, k4] at h
    cases h
theorem meets_good {b : Body} {p q : Vec} (h : chkB b p q = false) : meetsB b p q = (whereP b p q).2 := by
  obtain ⟨h1, h2, h3, h4⟩ := chk_ok h
  exact meets_eq h1 h2 h3 h4
set_option maxHeartbeats 4000000 in
set_option maxRecDepth 8000 in
theorem RMeets_true : ∀ a, conj ((fun (_ : Body × Vec × Vec) => []) a) → whN a.1 a.2.1 a.2.2 = true → evFn (C := cx) [conWhereN, conRValid, conRInside, conRShort] [] 0 noHow Tryz.f11 ((rds3 rdBody rdVec rdVec).enc a) fun v H _ => resOut (.v (.bool (meetsB a.1 a.2.1 a.2.2))) H v := by
  intro ⟨b, p, q⟩ _ hc
  replace hc : whN b p q = true := hc
  refine And.intro (fun h => ?_) ?_
  · have h : (!b.ok || !p.inB || !q.inB) = false := h
    simp only [Bool.or_eq_false_iff, Bool.not_eq_false'] at h
    exact ⟨Vec.In.of h.1.2, Vec.In.of h.2⟩
  refine And.intro (fun hk => ?_) (fun hk => ?_)
  · have hk : chkB b p q = true := hk
    show meetsB b p q = false
    exact meets_bad hk
  · have hk : chkB b p q = false := hk
    obtain ⟨k1, k2, k3, k4⟩ := chk_ok hk
    refine And.intro ⟨k1, k2, k3, k4, hc⟩ ?_
    show meetsB b p q = false
    rw [meets_good hk]; exact (where_eq k1).1 hc
set_option maxHeartbeats 4000000 in
set_option maxRecDepth 8000 in
theorem RMeets_false : ∀ a, conj ((fun (_ : Body × Vec × Vec) => []) a) → whN a.1 a.2.1 a.2.2 = false → evFn (C := cx) [conWhereY, conRValid, conRInside, conRShort] [] 0 noHow Tryz.f11 ((rds3 rdBody rdVec rdVec).enc a) fun v H _ => resOut (.v (.bool (meetsB a.1 a.2.1 a.2.2))) H v := by
  intro ⟨b, p, q⟩ _ hc
  replace hc : whN b p q = false := hc
  refine And.intro (fun h => ?_) ?_
  · have h : (!b.ok || !p.inB || !q.inB) = false := h
    simp only [Bool.or_eq_false_iff, Bool.not_eq_false'] at h
    exact ⟨Vec.In.of h.1.2, Vec.In.of h.2⟩
  refine And.intro (fun hk => ?_) (fun hk => ?_)
  · have hk : chkB b p q = true := hk
    show meetsB b p q = false
    exact meets_bad hk
  · have hk : chkB b p q = false := hk
    obtain ⟨k1, k2, k3, k4⟩ := chk_ok hk
    refine And.intro ⟨k1, k2, k3, k4, hc⟩ ?_
    show meetsB b p q = (whR b p q).2
    rw [meets_good hk]; exact ((where_eq k1).2 hc).1.symm
noncomputable def conRMeets : Con cx := walkCase (Γ := [conWhereN, conRValid, conRInside, conRShort]) (Fs := []) (d := 0) (Γ' := [conWhereY, conRValid, conRInside, conRShort]) (Fs' := []) (d' := 0) 11 Tryz.call11 (rds3 rdBody rdVec rdVec) (fun _ => []) (fun a => .v (.bool (meetsB a.1 a.2.1 a.2.2))) (fun a => whN a.1 a.2.1 a.2.2) noHow noHow follows Tryz.func11 (by kernel_rfl) (by kernel_rfl) RMeets_true RMeets_false
end Go.Proofs.YtcojfohjdibjjaaGreatDoor
namespace Go.Proofs.YtcojfohjdibjjaaGreatDoor
open Go.RowKit

theorem bw_le {k : Nat} {x : Int} {M : Nat} (h : -(M : Int) ≤ x ∧ x ≤ M) (e : M < 2 ^ k) : Bw k x := by
  show x.natAbs < 2 ^ k
  omega
theorem Plc.In.b {w : Plc} (h : w.In) : PlB w := ⟨bw_le (M := 536870912) h.n (by decide), ⟨h.s.1, bw_le (M := 288230376151711744) ⟨by have := h.s.1; omega, h.s.2⟩ (by decide)⟩, bw_le (M := 134217728) ⟨by have := h.m.1; omega, h.m.2⟩ (by decide)⟩
theorem Plc.In.v {w : Plc} (h : w.In) : PlB (plV (plS w)) := by rw [plV_plS]; exact h.b
def biCut (w : Plc) : Cut := ⟨Nat × Nat, fun x => (x.1 < x.2 ∧ x.2 ≤ 65537) ∧ (x.1 = 0 ∨ aheadB w (x.1 - 1) = false) ∧ (x.2 = 65537 ∨ aheadB w (x.2 - 1) = true),
  fun x => ⟨[sl 9 (.p 0 0), sl 11 (.v (.int .i64 x.1)), sl 12 (.v (.int .i64 x.2))], [(0, .lay [zS w.n, zS w.s, zS w.m] 58)], 1, 0, [], []⟩, fun x => x.2 - x.1⟩
theorem cmpPart {w : Plc} (hs : 0 ≤ w.s) (hm : 0 < w.m) {h : Nat} (h1 : 1 ≤ h) : decide (refC (plV (plS (atP h 65536))) (plV (plS w)) ≤ 0) = !aheadB w (h - 1) := by
  rw [plV_plS, plV_plS]
  have e : refC (atP h 65536) w = ordP ⟨h, 0, 65536⟩ w := refC_eq (a := ⟨h, 0, 65536⟩) (Int.le_refl 0) hs (by show (0 : Int) < 65536; decide) hm (fun k => absurd rfl k)
  rw [e]
  unfold aheadB
  have e2 : ((h - 1 : Nat) : Int) + 1 = h := by omega
  rw [e2]
  by_cases k : 0 < ordP ⟨h, 0, 65536⟩ w
  · rw [decide_eq_true k, decide_eq_false (by omega)]; rfl
  · rw [decide_eq_false k, decide_eq_true (by omega)]; rfl
theorem tdiv2 {i j h : Nat} (e : h = (i + j) / 2) : Int.tdiv ((i : Int) + j) 2 = h := by
  subst e
  rw [Int.tdiv_eq_ediv_of_nonneg (by omega)]
  omega
def partS (a : Body × Vec × Vec) : SV := .tup [.v (.int .i64 (partE a.1 a.2.1 a.2.2).1), .v (.int .i64 (partE a.1 a.2.1 a.2.2).2)]
set_option maxHeartbeats 4000000 in
set_option maxRecDepth 8000 in
theorem RPart_N : ∀ a, conj ((fun (_ : Body × Vec × Vec) => []) a) → whN a.1 a.2.1 a.2.2 = true → evFn (C := cx) [conRWrong, conWhereN, conRAt, conCompare] [] 0 ⟨[], [], [8], 0⟩ Tryz.f7 ((rds3 rdBody rdVec rdVec).enc a) fun v H _ => resOut (partS a) H v := by
  intro ⟨b, p, q⟩ _ hc
  replace hc : whN b p q = true := hc
  have one : (1 : Nat) ≤ 1000 := by decide
  refine And.intro ⟨one_al trivial, one⟩ ?_
  refine And.intro (fun h1 => ?_) (fun h1 => ?_)
  · have h1 : decide (¬ wrongE p q 1 (oneB b) = 0) = true := h1
    have he : partE b p q = (0, wrongE p q 1 (oneB b)) := by unfold partE; rw [h1]
    have hs : partS (b, p, q) = .tup [.v (.int .i64 0), .v (.int .i64 (wrongE p q 1 (oneB b)))] := by unfold partS; simp only [he]
    simp only [hs]
    repeat' (first | (refine And.intro ?_ ?_) | (intro _) | exact rfl)
  have h1 : decide (¬ wrongE p q 1 (oneB b) = 0) = false := h1
  obtain ⟨k1, k2, k3, k4⟩ := one_ok (by simpa using h1)
  refine And.intro ⟨k3, k1, k2, k4, hc⟩ ?_
  have h2 : (!(whereP b p q).2) = true := by rw [(where_eq k3).1 hc]; rfl
  have he : partE b p q = (0, 6) := by unfold partE; rw [h1, h2]
  have hs : partS (b, p, q) = .tup [.v (.int .i64 0), .v (.int .i64 6)] := by unfold partS; simp only [he]
  simp only [hs]
  repeat' (first | (refine And.intro ?_ ?_) | (intro _) | exact rfl)
set_option maxHeartbeats 4000000 in
set_option maxRecDepth 8000 in
theorem RPart_Y : ∀ a, conj ((fun (_ : Body × Vec × Vec) => []) a) → whN a.1 a.2.1 a.2.2 = false → evFn (C := cx) [conRWrong, conWhereY, conRAt, conCompare] [] 0 ⟨[], [], [8], 0⟩ Tryz.f7 ((rds3 rdBody rdVec rdVec).enc a) fun v H _ => resOut (partS a) H v := by
  intro ⟨b, p, q⟩ _ hc
  replace hc : whN b p q = false := hc
  have one : (1 : Nat) ≤ 1000 := by decide
  refine And.intro ⟨one_al trivial, one⟩ ?_
  refine And.intro (fun h1 => ?_) (fun h1 => ?_)
  · have h1 : decide (¬ wrongE p q 1 (oneB b) = 0) = true := h1
    have he : partE b p q = (0, wrongE p q 1 (oneB b)) := by unfold partE; rw [h1]
    have hs : partS (b, p, q) = .tup [.v (.int .i64 0), .v (.int .i64 (wrongE p q 1 (oneB b)))] := by unfold partS; simp only [he]
    simp only [hs]
    repeat' (first | (refine And.intro ?_ ?_) | (intro _) | exact rfl)
  have h1 : decide (¬ wrongE p q 1 (oneB b) = 0) = false := h1
  obtain ⟨k1, k2, k3, k4⟩ := one_ok (by simpa using h1)
  refine And.intro ⟨k3, k1, k2, k4, hc⟩ ?_
  obtain ⟨w1, w2⟩ := (where_eq k3).2 hc
  refine And.intro (fun h2 => ?_) (fun h2 => ?_)
  · have h2 : (!(whR b p q).2) = true := h2
    rw [w1] at h2
    have he : partE b p q = (0, 6) := by unfold partE; rw [h1, h2]
    have hs : partS (b, p, q) = .tup [.v (.int .i64 0), .v (.int .i64 6)] := by unfold partS; simp only [he]
    simp only [hs]
    repeat' (first | (refine And.intro ?_ ?_) | (intro _) | exact rfl)
  have h2 : (!(whR b p q).2) = false := h2
  rw [w1] at h2
  have hmet : (whereP b p q).2 = true := by simpa using h2
  have hw := w2 hmet
  obtain ⟨hm, hs⟩ := where_pos hmet
  have hi := where_in k3 k1 k2 k4
  have he : partE b p q = ((partW (whereP b p q).1 : Int), 0) := by unfold partE; rw [h1, h2]
  rw [← hw] at hm hs hi he
  have hS : partS (b, p, q) = .tup [.v (.int .i64 (partW (whR b p q).1)), .v (.int .i64 0)] := by unfold partS; simp only [he]
  simp only [hS]
  refine Exists.intro (biCut (whR b p q).1) ?_
  refine And.intro ?_ ?_
  · refine ⟨((0 : Nat), (65537 : Nat)), [(0, 4)], [], trivial, ⟨⟨by decide, by decide⟩, .inl rfl, .inl rfl⟩, ?_⟩
    repeat' (first | (refine And.intro ?_ ?_) | (intro _) | exact rfl)
  generalize hW : (whR b p q).1 = w at *
  refine fun (x : Nat × Nat) hx => ?_
  obtain ⟨i, j⟩ := x
  obtain ⟨⟨x1, x2⟩, x3, x4⟩ : (i < j ∧ j ≤ 65537) ∧ (i = 0 ∨ aheadB w (i - 1) = false) ∧ (j = 65537 ∨ aheadB w (j - 1) = true) := hx
  refine And.intro (by unfold I64; omega : I64 ((j : Int) - i)) ?_
  refine And.intro (fun hb => ?_) (fun hb => ?_)
  · have hb : 1 < (j : Int) - i := of_decide_eq_true hb
    refine And.intro (by unfold I64; omega : I64 ((i : Int) + j)) ?_
    obtain ⟨h, hd⟩ : ∃ h, h = (i + j) / 2 := ⟨_, rfl⟩
    have hh : Int.tdiv ((i : Int) + j) 2 = h := tdiv2 hd
    refine And.intro (show I64 (Int.tdiv ((i : Int) + j) 2) by rw [hh]; unfold I64; omega) ?_
    refine And.intro ⟨show Sml (Int.tdiv ((i : Int) + j) 2) by rw [hh]; unfold Sml; omega, show Sml 65536 from ⟨by decide, by decide⟩⟩ ?_
    have rb : Rb (atP (Int.tdiv ((i : Int) + j) 2) 65536) := Rb.at (by rw [hh]; omega) (by omega) (by decide)
    refine And.intro ⟨plV_of _, plV_of w, rb.v, hi.v⟩ ?_
    refine And.intro (fun hc => ?_) (fun hc => ?_)
    · have hc : decide (refC (plV (plS (atP (Int.tdiv ((i : Int) + j) 2) 65536))) (plV (plS w)) ≤ 0) = true := hc
      rw [hh, cmpPart hs hm (by omega)] at hc
      have hc : aheadB w (h - 1) = false := by simpa using hc
      refine ⟨(h, j), [], [], (by show j - h < j - i; omega), ⟨⟨(by omega : h < j), x2⟩, .inr hc, x4⟩, ?_⟩
      repeat' (first | exact hh.symm | (refine And.intro ?_ ?_) | (intro _) | exact rfl)
    · have hc : decide (refC (plV (plS (atP (Int.tdiv ((i : Int) + j) 2) 65536))) (plV (plS w)) ≤ 0) = false := hc
      rw [hh, cmpPart hs hm (by omega)] at hc
      have hc : aheadB w (h - 1) = true := by simpa using hc
      refine ⟨(i, h), [], [], (by show h - i < j - i; omega), ⟨⟨(by omega : i < h), (by omega : h ≤ 65537)⟩, x3, .inr hc⟩, ?_⟩
      repeat' (first | exact hh.symm | (refine And.intro ?_ ?_) | (intro _) | exact rfl)
  · have hb : ¬ 1 < (j : Int) - i := of_decide_eq_false hb
    have e : partW w = i := firstF_eq (Nat.zero_le _) (by omega) (fun k _ hk => by
      rcases x3 with x3 | x3
      · omega
      · exact ahead_mono hs hm (by omega) x3) (x4.imp (fun h => by omega) (fun h => by rw [show i = j - 1 by omega]; exact h))
    rw [e]
    repeat' (first | (refine And.intro ?_ ?_) | (intro _) | exact rfl)
noncomputable def conRPart : Con cx := walkCase (Γ := [conRWrong, conWhereN, conRAt, conCompare]) (Fs := []) (d := 0) (Γ' := [conRWrong, conWhereY, conRAt, conCompare]) (Fs' := []) (d' := 0) 7 Tryz.call7 (rds3 rdBody rdVec rdVec) (fun _ => []) partS (fun a => whN a.1 a.2.1 a.2.2) ⟨[], [], [8], 0⟩ ⟨[], [], [8], 0⟩ follows Tryz.func7 (by kernel_rfl) (by kernel_rfl) RPart_N RPart_Y
end Go.Proofs.YtcojfohjdibjjaaGreatDoor
namespace Go.Proofs.YtcojfohjdibjjaaGreatDoor
open Go.RowKit

def isB : List SV → Bool
  | .agg [_, _, _, _, _, _, _, _, .bl _] :: _ => true
  | _ => false
/-- Where: of the body whose mark is written otherwise, by another contract. -/
noncomputable def conAB (A B : Con cx) (hA : A.e = 25) (hB : B.e = 25) : Con cx where
  f := 25
  en := Tryz.call25
  run := fun args => match isB args with | true => B.run args | false => A.run args
  fresh := false
  own := none
  ok := fun ze W args vs ob out hG hz hd hr ho => by
    split at hr
    · have := B.ok ze W args vs ob out hG hz hd hr ho
      rw [hB] at this
      exact this.mono (fun e W' ⟨val, z', h1, h2, h3, h4, _, _⟩ => ⟨val, z', h1, h2, h3, h4, (fun c => by cases c), fun t c => by cases c⟩)
    · have := A.ok ze W args vs ob out hG hz hd hr ho
      rw [hA] at this
      exact this.mono (fun e W' ⟨val, z', h1, h2, h3, h4, _, _⟩ => ⟨val, z', h1, h2, h3, h4, (fun c => by cases c), fun t c => by cases c⟩)
/-- A body, its last mark written otherwise. -/
def Body.il (b : Body) : SV := .agg [.v (.int .i64 b.iD), .v (.int .i64 b.posX), .v (.int .i64 b.posY), .v (.int .i64 b.velX), .v (.int .i64 b.velY), .v (.int .i64 b.w), .v (.int .i64 b.h), .v (.bool b.round), .bl b.fixed]
theorem il_den {ρ : Names} {a b : Body} {p q : Vec} {vs : List Value} (h : denL ρ [a.sv, b.sv, p.sv, q.sv] vs) : denL ρ [a.sv, b.il, p.sv, q.sv] vs := by
  obtain ⟨v1, r1, rfl, w1, h1⟩ := denL_cons h
  obtain ⟨v2, r2, rfl, ⟨u, hu, e⟩, h2⟩ := denL_cons h1
  refine denL_cons_of w1 (denL_cons_of ⟨u, ?_, e⟩ h2)
  exact hu
noncomputable def conW : Bool → Con cx
  | true => conWhereN
  | false => conWhereY
theorem conW_e : ∀ c, (conW c).e = 25
  | true => rfl
  | false => rfl
theorem where_m {b : Body} {p q : Vec} (h : (whereP b p q).2 = true) (hs : (whereP b p q).1.s ≠ 0) : (whereP b p q).1.m = segA p q := by
  unfold whereP at *
  split
  · rename_i h1
    rw [h1] at h hs
    obtain ⟨r, -⟩ := enter_yes h
    exact absurd r.s hs
  · rename_i h1
    rw [h1] at h hs
    split
    · rename_i h2
      rw [h2] at hs
      exact absurd rfl hs
    · rename_i h2
      rw [h2] at h hs
      split
      · rename_i h3
        rw [h3] at h; cases h
      · rfl
def befS (a : Body × Body × Vec × Vec) : SV := .tup [.v (.int .i64 (beforeE a.1 a.2.1 a.2.2.1 a.2.2.2).1), .v (.int .i64 (beforeE a.1 a.2.1 a.2.2.1 a.2.2.2).2)]
set_option maxHeartbeats 4000000 in
set_option maxRecDepth 8000 in
theorem RBefore_true_true : ∀ a, conj ((fun (_ : Body × Body × Vec × Vec) => []) a) → whN a.1 a.2.2.1 a.2.2.2 = true → whN a.2.1 a.2.2.1 a.2.2.2 = true → evFn (C := cx) [conRWrong, conAB (conW true) (conW true) (conW_e _) (conW_e _), conCompare] [] 0 noHow Tryz.f9 [a.1.sv, a.2.1.il, a.2.2.1.sv, a.2.2.2.sv] fun v H _ => resOut (befS a) H v := by
  intro ⟨a, b, p, q⟩ _ hca hcb
  replace hca : whN a p q = true := hca
  replace hcb : whN b p q = true := hcb
  have two : (2 : Nat) ≤ 1000 := by decide
  refine And.intro ⟨two_al trivial trivial, two⟩ ?_
  refine And.intro (fun h1 => ?_) (fun h1 => ?_)
  · have h1 : decide (¬ wrongE p q 2 (twoB a b) = 0) = true := h1
    have he : beforeE a b p q = (0, wrongE p q 2 (twoB a b)) := by unfold beforeE; rw [h1]
    have hs : befS (a, b, p, q) = .tup [.v (.int .i64 0), .v (.int .i64 (wrongE p q 2 (twoB a b)))] := by unfold befS; simp only [he]
    simp only [hs]
    repeat' (first | (refine And.intro ?_ ?_) | (intro _) | exact rfl)
  have h1 : decide (¬ wrongE p q 2 (twoB a b) = 0) = false := h1
  obtain ⟨k1, k2, k3, k4, k5⟩ := two_ok (by simpa using h1)
  refine And.intro ⟨k3, k1, k2, k5, hca⟩ ?_
  refine And.intro ⟨k4, k1, k2, k5, hcb⟩ ?_
  have h2 : (!(whereP a p q).2 || !(whereP b p q).2) = true := by rw [(where_eq k3).1 hca]; rfl
  have he : beforeE a b p q = (0, 6) := by unfold beforeE; rw [h1, h2]
  have hs : befS (a, b, p, q) = .tup [.v (.int .i64 0), .v (.int .i64 6)] := by unfold befS; simp only [he]
  simp only [hs]
  repeat' (first | (refine And.intro ?_ ?_) | (intro _) | exact rfl)
set_option maxHeartbeats 4000000 in
set_option maxRecDepth 8000 in
theorem RBefore_true_false : ∀ a, conj ((fun (_ : Body × Body × Vec × Vec) => []) a) → whN a.1 a.2.2.1 a.2.2.2 = true → whN a.2.1 a.2.2.1 a.2.2.2 = false → evFn (C := cx) [conRWrong, conAB (conW true) (conW false) (conW_e _) (conW_e _), conCompare] [] 0 noHow Tryz.f9 [a.1.sv, a.2.1.il, a.2.2.1.sv, a.2.2.2.sv] fun v H _ => resOut (befS a) H v := by
  intro ⟨a, b, p, q⟩ _ hca hcb
  replace hca : whN a p q = true := hca
  replace hcb : whN b p q = false := hcb
  have two : (2 : Nat) ≤ 1000 := by decide
  refine And.intro ⟨two_al trivial trivial, two⟩ ?_
  refine And.intro (fun h1 => ?_) (fun h1 => ?_)
  · have h1 : decide (¬ wrongE p q 2 (twoB a b) = 0) = true := h1
    have he : beforeE a b p q = (0, wrongE p q 2 (twoB a b)) := by unfold beforeE; rw [h1]
    have hs : befS (a, b, p, q) = .tup [.v (.int .i64 0), .v (.int .i64 (wrongE p q 2 (twoB a b)))] := by unfold befS; simp only [he]
    simp only [hs]
    repeat' (first | (refine And.intro ?_ ?_) | (intro _) | exact rfl)
  have h1 : decide (¬ wrongE p q 2 (twoB a b) = 0) = false := h1
  obtain ⟨k1, k2, k3, k4, k5⟩ := two_ok (by simpa using h1)
  refine And.intro ⟨k3, k1, k2, k5, hca⟩ ?_
  refine And.intro ⟨k4, k1, k2, k5, hcb⟩ ?_
  have h2 : (!(whereP a p q).2 || !(whereP b p q).2) = true := by rw [(where_eq k3).1 hca]; rfl
  have he : beforeE a b p q = (0, 6) := by unfold beforeE; rw [h1, h2]
  have hs : befS (a, b, p, q) = .tup [.v (.int .i64 0), .v (.int .i64 6)] := by unfold befS; simp only [he]
  simp only [hs]
  repeat' (first | (refine And.intro ?_ ?_) | (intro _) | exact rfl)
set_option maxHeartbeats 4000000 in
set_option maxRecDepth 8000 in
theorem RBefore_false_true : ∀ a, conj ((fun (_ : Body × Body × Vec × Vec) => []) a) → whN a.1 a.2.2.1 a.2.2.2 = false → whN a.2.1 a.2.2.1 a.2.2.2 = true → evFn (C := cx) [conRWrong, conAB (conW false) (conW true) (conW_e _) (conW_e _), conCompare] [] 0 noHow Tryz.f9 [a.1.sv, a.2.1.il, a.2.2.1.sv, a.2.2.2.sv] fun v H _ => resOut (befS a) H v := by
  intro ⟨a, b, p, q⟩ _ hca hcb
  replace hca : whN a p q = false := hca
  replace hcb : whN b p q = true := hcb
  have two : (2 : Nat) ≤ 1000 := by decide
  refine And.intro ⟨two_al trivial trivial, two⟩ ?_
  refine And.intro (fun h1 => ?_) (fun h1 => ?_)
  · have h1 : decide (¬ wrongE p q 2 (twoB a b) = 0) = true := h1
    have he : beforeE a b p q = (0, wrongE p q 2 (twoB a b)) := by unfold beforeE; rw [h1]
    have hs : befS (a, b, p, q) = .tup [.v (.int .i64 0), .v (.int .i64 (wrongE p q 2 (twoB a b)))] := by unfold befS; simp only [he]
    simp only [hs]
    repeat' (first | (refine And.intro ?_ ?_) | (intro _) | exact rfl)
  have h1 : decide (¬ wrongE p q 2 (twoB a b) = 0) = false := h1
  obtain ⟨k1, k2, k3, k4, k5⟩ := two_ok (by simpa using h1)
  refine And.intro ⟨k3, k1, k2, k5, hca⟩ ?_
  refine And.intro ⟨k4, k1, k2, k5, hcb⟩ ?_
  have h2 : (!(whereP a p q).2 || !(whereP b p q).2) = true := by rw [(where_eq k4).1 hcb]; exact Bool.or_true _
  refine And.intro (fun _ => ?_) (fun h5 => ?_)
  rotate_left
  · have h5 : (!(whR a p q).2 || true) = false := h5
    rw [Bool.or_true] at h5; cases h5
  have he : beforeE a b p q = (0, 6) := by unfold beforeE; rw [h1, h2]
  have hs : befS (a, b, p, q) = .tup [.v (.int .i64 0), .v (.int .i64 6)] := by unfold befS; simp only [he]
  simp only [hs]
  repeat' (first | (refine And.intro ?_ ?_) | (intro _) | exact rfl)
set_option maxHeartbeats 4000000 in
set_option maxRecDepth 8000 in
theorem RBefore_false_false : ∀ a, conj ((fun (_ : Body × Body × Vec × Vec) => []) a) → whN a.1 a.2.2.1 a.2.2.2 = false → whN a.2.1 a.2.2.1 a.2.2.2 = false → evFn (C := cx) [conRWrong, conAB (conW false) (conW false) (conW_e _) (conW_e _), conCompare] [] 0 noHow Tryz.f9 [a.1.sv, a.2.1.il, a.2.2.1.sv, a.2.2.2.sv] fun v H _ => resOut (befS a) H v := by
  intro ⟨a, b, p, q⟩ _ hca hcb
  replace hca : whN a p q = false := hca
  replace hcb : whN b p q = false := hcb
  have two : (2 : Nat) ≤ 1000 := by decide
  refine And.intro ⟨two_al trivial trivial, two⟩ ?_
  refine And.intro (fun h1 => ?_) (fun h1 => ?_)
  · have h1 : decide (¬ wrongE p q 2 (twoB a b) = 0) = true := h1
    have he : beforeE a b p q = (0, wrongE p q 2 (twoB a b)) := by unfold beforeE; rw [h1]
    have hs : befS (a, b, p, q) = .tup [.v (.int .i64 0), .v (.int .i64 (wrongE p q 2 (twoB a b)))] := by unfold befS; simp only [he]
    simp only [hs]
    repeat' (first | (refine And.intro ?_ ?_) | (intro _) | exact rfl)
  have h1 : decide (¬ wrongE p q 2 (twoB a b) = 0) = false := h1
  obtain ⟨k1, k2, k3, k4, k5⟩ := two_ok (by simpa using h1)
  refine And.intro ⟨k3, k1, k2, k5, hca⟩ ?_
  refine And.intro ⟨k4, k1, k2, k5, hcb⟩ ?_
  obtain ⟨a1, a2⟩ := (where_eq k3).2 hca
  obtain ⟨b1, b2⟩ := (where_eq k4).2 hcb
  refine And.intro (fun h2 => ?_) (fun h2 => ?_)
  · have h2 : (!(whR a p q).2 || !(whR b p q).2) = true := h2
    rw [a1, b1] at h2
    have he : beforeE a b p q = (0, 6) := by unfold beforeE; rw [h1, h2]
    have hs : befS (a, b, p, q) = .tup [.v (.int .i64 0), .v (.int .i64 6)] := by unfold befS; simp only [he]
    simp only [hs]
    repeat' (first | (refine And.intro ?_ ?_) | (intro _) | exact rfl)
  have h2 : (!(whR a p q).2 || !(whR b p q).2) = false := h2
  rw [a1, b1] at h2
  have h2' := h2
  rw [Bool.or_eq_false_iff] at h2'
  have ma : (whereP a p q).2 = true := by simpa using h2'.1
  have mb : (whereP b p q).2 = true := by simpa using h2'.2
  obtain ⟨pa, sa⟩ := where_pos ma
  obtain ⟨pb, sb⟩ := where_pos mb
  have ia := where_in k3 k1 k2 k5
  have ib := where_in k4 k1 k2 k5
  have he : beforeE a b p q = (ordP (whereP a p q).1 (whereP b p q).1, 0) := by unfold beforeE; rw [h1, h2]
  have eo : refC (plV (plS (whR a p q).1)) (plV (plS (whR b p q).1)) = ordP (whereP a p q).1 (whereP b p q).1 := by
    rw [plV_plS, plV_plS, a2 ma, b2 mb]
    exact refC_eq sa sb pa pb (fun x y => (where_m ma x).trans (where_m mb y).symm)
  have hs : befS (a, b, p, q) = .tup [.v (.int .i64 (refC (plV (plS (whR a p q).1)) (plV (plS (whR b p q).1)))), .v (.int .i64 0)] := by unfold befS; simp only [he, eo]
  simp only [hs]
  have va : PlB (plV (plS (whR a p q).1)) := by rw [a2 ma]; exact ia.v
  have vb : PlB (plV (plS (whR b p q).1)) := by rw [b2 mb]; exact ib.v
  refine And.intro ⟨plV_of _, plV_of _, va, vb⟩ ?_
  repeat' (first | (refine And.intro ?_ ?_) | (intro _) | exact rfl)
noncomputable def conRBefore : Con cx := mkCon 9 Tryz.call9 (rds4 rdBody rdBody rdVec rdVec) (fun _ => []) befS fun a ze W vs hp hG hz hd => match ha : whN a.1 a.2.2.1 a.2.2.2, hb : whN a.2.1 a.2.2.1 a.2.2.2 with
    | true, true => calls_fn noHow follows Tryz.func9 (by kernel_rfl) hG hz (il_den hd) (RBefore_true_true a hp ha hb)
    | true, false => calls_fn noHow follows Tryz.func9 (by kernel_rfl) hG hz (il_den hd) (RBefore_true_false a hp ha hb)
    | false, true => calls_fn noHow follows Tryz.func9 (by kernel_rfl) hG hz (il_den hd) (RBefore_false_true a hp ha hb)
    | false, false => calls_fn noHow follows Tryz.func9 (by kernel_rfl) hG hz (il_den hd) (RBefore_false_false a hp ha hb)
end Go.Proofs.YtcojfohjdibjjaaGreatDoor
