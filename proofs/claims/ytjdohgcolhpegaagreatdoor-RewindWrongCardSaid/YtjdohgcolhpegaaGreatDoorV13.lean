/- RewindWrong: the walk. -/
import Derived.Test.YtjdohgcolhpegaaGreatDoorN4
namespace Go.Proofs.YtjdohgcolhpegaaGreatDoor
open Go.RowKit

noncomputable def conSeeV (S : Wrs → Int → Vec → Df.Input → Hit × Int) (hS : S = seeE) : Con cx where
  f := conSee.f
  en := conSee.en
  run := fun args => match alikeCL (rds4 rdWrs (rdI .i64) rdVec Df.rdInput).pats args with
    | some l => some (obO (l ++ (fun (a : Wrs × Int × Vec × Df.Input) => [a.1.Sm, ∀ k, k < a.1.n → (a.1.w k).l.n ≤ 12]) ((rds4 rdWrs (rdI .i64) rdVec Df.rdInput).dec args)), (fun (a : Wrs × Int × Vec × Df.Input) => .tup [(S a.1 a.2.1 a.2.2.1 a.2.2.2).1.sv, .v (.int .i64 (S a.1 a.2.1 a.2.2.1 a.2.2.2).2)]) ((rds4 rdWrs (rdI .i64) rdVec Df.rdInput).dec args))
    | none => none
  fresh := false
  own := none
  ok := by subst hS; exact conSee.ok
set_option maxHeartbeats 2000000 in
set_option maxRecDepth 8000 in
theorem KeepX_walk : ∀ a, conj ((fun (a : Wrs × Int) => [a.2 < 0 ∨ 1073741824 < a.2]) a) → evFn (C := cx) [] [] 0 noHow Tryz.f26 ((rds2 rdWrs (rdI .i64)).enc a) fun v H _ => resOut ((fun _ => .tup [.v (.slice none 0 0), .il .i64 2]) a) H v := by
  intro ⟨h, t⟩ ht
  replace ht : t < 0 ∨ 1073741824 < t := ht
  refine And.intro (fun hc => ?_) (fun hc => ?_)
  · repeat' (first | (refine And.intro ?_ ?_) | (intro _) | exact rfl)
  · have hc : (decide (t < 0) || decide (1073741824 < t)) = false := hc
    simp only [Bool.or_eq_false_iff, decide_eq_false_iff_not] at hc
    omega
noncomputable def conKeepX : Con cx := walkCon 26 Tryz.call26 (rds2 rdWrs (rdI .i64)) (fun (a : Wrs × Int) => [a.2 < 0 ∨ 1073741824 < a.2]) (fun _ => .tup [.v (.slice none 0 0), .il .i64 2]) (fun _ => noHow) [] (fun _ => rfl) follows Tryz.func26 (by kernel_rfl) KeepX_walk
def wrC (J : Wrs → Wor → Int → Df.Input → Hit × Int) (n : Int) : Cut := ⟨Df.Input × Int × Int × Wor, fun a => a.2.2.2.l.Sm ∧ J awH a.2.2.2 a.2.1 a.1 = (Hit.no, a.2.2.1), fun a => ⟨[sl 1 (i64 n), sl 5 (.s 0 2 0 2 2), sl 6 (.p 1 0), sl 7 (.p 2 0), sl 8 (i64 a.2.1), sl 9 (i64 a.2.2.1)],
  [(0, .lay awCs 25), (1, .lay a.2.2.2.cells 25), (2, .lay a.1.cells 29)], 3, 0, [], []⟩, fun _ => 0⟩
def wrI : Df.Input := ⟨2, 0, 0, 0, 0, true, 100, 0, 31, 0⟩
theorem u8_mod {w : Int} (h : 0 ≤ w) : w.tmod 9 = w % 9 := Int.tmod_eq_emod_of_nonneg h
theorem judge_2 {h : Wrs} {w : Wor} {id : Int} {i : Df.Input} (hb : jB1 h w i = true) : judgeE h w id i = (Hit.no, 2) := by unfold judgeE; rw [hb]
theorem jB1_fit {h : Wrs} {w : Wor} {i : Df.Input} (hb : fitsB i.client i = false) : jB1 h w i = true := by unfold jB1; rw [hb]; simp
theorem jB1_val {h : Wrs} {w : Wor} {i : Df.Input} (hb : w.valid = false) : jB1 h w i = true := by unfold jB1; rw [hb]; simp
theorem judge_6 {h : Wrs} {w : Wor} {id : Int} {i : Df.Input} (hb : jB1 h w i = false) (hc : jB2 w id i = true) : judgeE h w id i = (Hit.no, 6) := by unfold judgeE; rw [hb, hc]
theorem fits_no' {c : Int} {i : Df.Input} (h : ¬ (1 ≤ c ∧ c ≤ 8 ∧ -8192 ≤ i.aimX ∧ i.aimY ≤ 8192 ∧ 0 ≤ i.seen ∧ i.part < 16)) : fitsB c i = false := by
  cases hb : fitsB c i with
  | false => rfl
  | true =>
    exfalso
    apply h
    unfold fitsB withB at hb
    simp only [Bool.and_eq_true, decide_eq_true_eq] at hb
    omega
theorem aw_get {id q : Int} (h : (getE awW id q).2 = true) : id = 1 ∨ id = 5 := by
  obtain ⟨h1, -⟩ := get_hitC h
  obtain ⟨-, h2, h3⟩ := find_hit h1
  have h2 : (findE awW id).1 < 2 := h2
  have h4 : (findE awW id).1 = 0 ∨ (findE awW id).1 = 1 := by omega
  rcases h4 with h4 | h4 <;> rw [h4] at h3
  · left; exact h3.symm
  · right; exact h3.symm
theorem aw_own {id : Int} (h : 2 ≤ id) : jB2 awW id wrI = true := by
  unfold jB2
  cases h4 : (getE awW id 4).2 with
  | false => simp
  | true =>
    rcases aw_get h4 with rfl | rfl
    · omega
    · have : (getE awW 5 4).2 = false := by kernel_rfl
      rw [this] at h4; cases h4
set_option maxHeartbeats 8000000 in
set_option maxRecDepth 8000 in
theorem Wrong_ev (J : Wrs → Wor → Int → Df.Input → Hit × Int) (hJ : J = judgeE) (V : Wor → Int → Int → Wor × Int) (hV : V = hurtE) (S : Wrs → Int → Vec → Df.Input → Hit × Int) (hS : S = seeE) (way n : Int) (hw : 0 ≤ way ∧ way ≤ 255) :
    evFn (C := cx) [conScene, conJudgeV J hJ, conHurtV V hV, conSeeV S hS, conKeepX, conAwake29] [] 0 ⟨[], [22], [], 0⟩ Tryz.f7 ((rds2 (rdI .u8) (rdI .i64)).enc (way, n)) fun v H _ => resOut (.v (.bool true)) H v := by
  have hmod := u8_mod hw.1
  have wS : ∀ t, Ens.Sm (Wor.l ⟨t, awW.l⟩) := fun t => awW_sm
  refine Exists.intro (wrC J n) ?_
  refine And.intro ?_ ?_
  · refine And.intro (fun hc => ?_) (fun hc => ?_)
    · have hj : judgeE awH awW (1) ({ wrI with client := min n 0 } : Df.Input) = (Hit.no, 2) := judge_2 (jB1_fit (fits_no' (by show ¬ (1 ≤ min n 0 ∧ _); omega)))
      rw [← hJ] at hj
      refine ⟨({ wrI with client := min n 0 }, 1, 2, awW), [], [], trivial, ⟨wS _, hj⟩, ?_⟩
      repeat' (first | (refine And.intro ?_ ?_) | (intro _) | exact rfl)
    have hc0 : decide (way.tmod 9 = 0) = false := hc
    have hn0 := of_decide_eq_false hc0
    refine And.intro (fun hc => ?_) (fun hc => ?_)
    · have hj : judgeE awH awW (1) ({ wrI with client := max n 9 } : Df.Input) = (Hit.no, 2) := judge_2 (jB1_fit (fits_no' (by show ¬ (1 ≤ max n 9 ∧ max n 9 ≤ 8 ∧ _); omega)))
      rw [← hJ] at hj
      refine ⟨({ wrI with client := max n 9 }, 1, 2, awW), [], [], trivial, ⟨wS _, hj⟩, ?_⟩
      repeat' (first | (refine And.intro ?_ ?_) | (intro _) | exact rfl)
    have hc1 : decide (way.tmod 9 = 1) = false := hc
    have hn1 := of_decide_eq_false hc1
    refine And.intro (fun hc => ?_) (fun hc => ?_)
    · have hj : judgeE awH awW (1) ({ wrI with aimX := min n (-8193) } : Df.Input) = (Hit.no, 2) := judge_2 (jB1_fit (fits_no' (by show ¬ (_ ∧ _ ∧ -8192 ≤ min n (-8193) ∧ _); omega)))
      rw [← hJ] at hj
      refine ⟨({ wrI with aimX := min n (-8193) }, 1, 2, awW), [], [], trivial, ⟨wS _, hj⟩, ?_⟩
      repeat' (first | (refine And.intro ?_ ?_) | (intro _) | exact rfl)
    have hc2 : decide (way.tmod 9 = 2) = false := hc
    have hn2 := of_decide_eq_false hc2
    refine And.intro (fun hc => ?_) (fun hc => ?_)
    · have hj : judgeE awH awW (1) ({ wrI with aimY := max n 8193 } : Df.Input) = (Hit.no, 2) := judge_2 (jB1_fit (fits_no' (by show ¬ (_ ∧ _ ∧ _ ∧ max n 8193 ≤ 8192 ∧ _); omega)))
      rw [← hJ] at hj
      refine ⟨({ wrI with aimY := max n 8193 }, 1, 2, awW), [], [], trivial, ⟨wS _, hj⟩, ?_⟩
      repeat' (first | (refine And.intro ?_ ?_) | (intro _) | exact rfl)
    have hc3 : decide (way.tmod 9 = 3) = false := hc
    have hn3 := of_decide_eq_false hc3
    refine And.intro (fun hc => ?_) (fun hc => ?_)
    · have hj : judgeE awH awW (1) ({ wrI with seen := min n (-1) } : Df.Input) = (Hit.no, 2) := judge_2 (jB1_fit (fits_no' (by show ¬ (_ ∧ _ ∧ _ ∧ _ ∧ 0 ≤ min n (-1) ∧ _); omega)))
      rw [← hJ] at hj
      refine ⟨({ wrI with seen := min n (-1) }, 1, 2, awW), [], [], trivial, ⟨wS _, hj⟩, ?_⟩
      repeat' (first | (refine And.intro ?_ ?_) | (intro _) | exact rfl)
    have hc4 : decide (way.tmod 9 = 4) = false := hc
    have hn4 := of_decide_eq_false hc4
    refine And.intro (fun hc => ?_) (fun hc => ?_)
    · have hj : judgeE awH awW (1) ({ wrI with part := max n 16 } : Df.Input) = (Hit.no, 2) := judge_2 (jB1_fit (fits_no' (by show ¬ (_ ∧ _ ∧ _ ∧ _ ∧ _ ∧ max n 16 < 16); omega)))
      rw [← hJ] at hj
      refine ⟨({ wrI with part := max n 16 }, 1, 2, awW), [], [], trivial, ⟨wS _, hj⟩, ?_⟩
      repeat' (first | (refine And.intro ?_ ?_) | (intro _) | exact rfl)
    have hc5 : decide (way.tmod 9 = 5) = false := hc
    have hn5 := of_decide_eq_false hc5
    refine And.intro (fun hc => ?_) (fun hc => ?_)
    · have hj : judgeE awH awW (max n 2) (wrI : Df.Input) = (Hit.no, 6) := judge_6 (by kernel_rfl) (aw_own (by omega))
      rw [← hJ] at hj
      refine ⟨(wrI, max n 2, 6, awW), [], [], trivial, ⟨wS _, hj⟩, ?_⟩
      repeat' (first | (refine And.intro ?_ ?_) | (intro _) | exact rfl)
    have hc6 : decide (way.tmod 9 = 6) = false := hc
    have hn6 := of_decide_eq_false hc6
    refine And.intro (fun hc => ?_) (fun hc => ?_)
    · have hj : judgeE awH awW (1) ({ wrI with client := 3 } : Df.Input) = (Hit.no, 6) := judge_6 (by kernel_rfl) (by kernel_rfl)
      rw [← hJ] at hj
      refine ⟨({ wrI with client := 3 }, 1, 6, awW), [], [], trivial, ⟨wS _, hj⟩, ?_⟩
      repeat' (first | (refine And.intro ?_ ?_) | (intro _) | exact rfl)
    have hc7 : decide (way.tmod 9 = 7) = false := hc
    have hn7 := of_decide_eq_false hc7
    refine And.intro (fun hc => ?_) (fun hc => ?_)
    · have hj : judgeE awH (⟨min n (-1), awW.l⟩) (1) (wrI : Df.Input) = (Hit.no, 2) := judge_2 (jB1_val (by
          cases hv : Wor.valid ⟨min n (-1), awW.l⟩ with
          | false => rfl
          | true => have : 0 ≤ min n (-1) := (Wor.valid_iff.1 hv).lo; omega))
      rw [← hJ] at hj
      refine ⟨(wrI, 1, 2, ⟨min n (-1), awW.l⟩), [], [], trivial, ⟨wS _, hj⟩, ?_⟩
      repeat' (first | (refine And.intro ?_ ?_) | (intro _) | exact rfl)
    have hc8 : decide (way.tmod 9 = 8) = false := hc
    have hn8 := of_decide_eq_false hc8
    omega
  refine fun (a : Df.Input × Int × Int × Wor) (ha : a.2.2.2.l.Sm ∧ J awH a.2.2.2 a.2.1 a.1 = (Hit.no, a.2.2.1)) => ?_
  obtain ⟨i, id, want, w⟩ := a
  obtain ⟨hm, hj⟩ : w.l.Sm ∧ J awH w id i = (Hit.no, want) := ha
  refine And.intro ⟨aw_al, fun _ _ _ _ => trivial, awH_sm, hm, awH_12⟩ ?_
  refine And.intro ⟨aw_al, awH_sm, awH_12⟩ ?_
  refine And.intro ⟨fun _ _ _ _ => trivial, scene_sm (t := 1) (y := 1)⟩ ?_
  refine And.intro ⟨fun _ _ _ _ => trivial, scene_sm (t := 1) (y := 1)⟩ ?_
  have k1 : min n (-1) < 0 ∨ 1073741824 < min n (-1) := by omega
  refine And.intro ⟨aw_al, k1⟩ ?_
  have s1 : (S awH 2 ⟨max n 1048577, 0⟩ ⟨2, 0, 0, 0, 0, false, 0, 0, 31, 0⟩).2 = 2 := by
    rw [hS]
    have : seeB awH 2 ⟨max n 1048577, 0⟩ ⟨2, 0, 0, 0, 0, false, 0, 0, 31, 0⟩ = true := by
      unfold seeB
      have : withB (max n 1048577) 0 1048576 = false := by
        unfold withB
        rw [decide_eq_false (by omega), Bool.false_and]
      rw [this]; simp
    unfold seeE; rw [this]
  have v1 : (V (sceneW 1 1) 5 (min n (-1))).2 = 2 := by
    rw [hV]
    unfold hurtE
    rw [decide_eq_false (by omega : ¬ 0 ≤ min n (-1))]
    simp
  have v2 : (V (sceneW 1 1) 5 (max n 1048577)).2 = 2 := by
    rw [hV]
    unfold hurtE
    rw [decide_eq_false (by omega : ¬ max n 1048577 ≤ 1048576)]
    simp
  refine Eq.trans (a := true) (b := ((((((decide ((J awH w id i).2 = want) && eqH (J awH w id i).1) && decide ((S awH 2 ⟨max n 1048577, 0⟩ ⟨2, 0, 0, 0, 0, false, 0, 0, 31, 0⟩).2 = 2)) && decide ((V (sceneW 1 1) 5 (min n (-1))).2 = (S awH 2 ⟨max n 1048577, 0⟩ ⟨2, 0, 0, 0, 0, false, 0, 0, 31, 0⟩).2)) && decide ((V (sceneW 1 1) 5 (max n 1048577)).2 = (S awH 2 ⟨max n 1048577, 0⟩ ⟨2, 0, 0, 0, 0, false, 0, 0, 31, 0⟩).2)) && decide (2 = (S awH 2 ⟨max n 1048577, 0⟩ ⟨2, 0, 0, 0, 0, false, 0, 0, 31, 0⟩).2)) || false)) ?_ ?_
  · rw [hj, s1, v1, v2]
    simp [eqH, Hit.no]
  · exact rfl
theorem Wrong29_walk (a : Int × Int) (h : 0 ≤ a.1 ∧ a.1 ≤ 255) : evFn (C := cx) [conScene, conJudgeV judgeE rfl, conHurtV hurtE rfl, conSeeV seeE rfl, conKeepX, conAwake29] [] 0 ⟨[], [22], [], 0⟩ Tryz.f7 ((rds2 (rdI .u8) (rdI .i64)).enc a) fun v H _ => resOut (.v (.bool true)) H v := Wrong_ev judgeE rfl hurtE rfl seeE rfl a.1 a.2 h
end Go.Proofs.YtjdohgcolhpegaaGreatDoor
